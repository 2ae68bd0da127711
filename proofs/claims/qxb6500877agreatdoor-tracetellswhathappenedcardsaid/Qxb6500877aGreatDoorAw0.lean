import Derived.Deep.CutBlock
import Derived.OwnWalk
import Derived.Maps.AppendAt
import Derived.Test.Qxb6500877aGreatDoorAv
set_option linter.unusedVariables false
set_option linter.unusedSimpArgs false
namespace Go.Proofs.Qxb6500877aGreatDoor
open Go.RowKit

/-- What a step answers. -/
structure Ans where
  z : Int
  co : Int
  tk : Int
  tm : Int
  hm : Bool
  mm : MsgV
  fs : List FiredS
/-- A step of the model. -/
structure ModS (m : Mdl) (o : OpS) (a : Ans) (m' : Mdl) : Prop where
  k0 : o.kd = 0 → ∃ (c : Nat) (was : Int), c < 4 ∧ o.a % 4 = c ∧ RunIs m.tk c was ∧ a = ⟨(m.pick c was).c, c, (m.pick c was).tk, 0, false, msg0, []⟩ ∧ m' = (m.pick c was).m
  k1 : o.kd = 1 → ∃ (b : Nat) (z : Int) (hm : Bool) (mm : MsgV), b < 16 ∧ o.a % 16 = b ∧ a = ⟨z, ((b % 4 : Nat) : Int), -1, 0, hm, mm, []⟩ ∧ ((m.bx b = [] ∧ z = 2 ∧ hm = false ∧ mm = msg0 ∧ m' = m) ∨ ∃ l, m.bx b = mm :: l ∧ z = 0 ∧ hm = true ∧ m' = m.deliver b)
  k2 : o.kd = 2 → ∃ fs, a = ⟨0, -1, -1, 0, false, msg0, fs⟩ ∧ TickM m 1 fs m'
  k3 : o.kd = 3 → ∃ fs, a = ⟨0, -1, -1, 0, false, msg0, fs⟩ ∧ TickM m o.x fs m'
  k4 : o.kd = 4 → ∃ z co : Int, a = ⟨z, co, -1, 0, false, msg0, []⟩ ∧ SendM m o z co m'
  k5 : o.kd = 5 → ∃ z co : Int, a = ⟨z, co, -1, 0, false, msg0, []⟩ ∧ BcM m o z co m'
  k6 : o.kd = 6 → ∃ z co tm : Int, a = ⟨z, co, -1, tm, false, msg0, []⟩ ∧ ArmM m o.a o.x o.y z co tm m'
  k7 : o.kd = 7 → ∃ z co tm : Int, a = ⟨z, co, -1, tm, false, msg0, []⟩ ∧ ArmM m o.a (plusI m.now o.x) o.y z co tm m'
  k8 : o.kd = 8 → ∃ z co tm : Int, a = ⟨z, co, -1, tm, false, msg0, []⟩ ∧ RearmM m o.x o.y z co tm m'
  k9 : o.kd = 9 → ∃ z co tm : Int, a = ⟨z, co, -1, tm, false, msg0, []⟩ ∧ CancelM m o.x z co tm m'
  k10 : o.kd = 10 → ∃ z co tk : Int, a = ⟨z, co, tk, 0, false, msg0, []⟩ ∧ AttM m o z co tk m'
  k11 : 11 ≤ o.kd ∧ o.kd ≤ 16 → ∃ z co tk : Int, a = ⟨z, co, tk, 0, false, msg0, []⟩ ∧ OnM m o z co tk m'
  kx : 16 < o.kd → a = ⟨3, -1, -1, 0, false, msg0, []⟩ ∧ m' = m
theorem mods_k0 {m m' : Mdl} {o : OpS} {a : Ans} (h : o.kd = 0) (hb : ∃ (c : Nat) (was : Int), c < 4 ∧ o.a % 4 = c ∧ RunIs m.tk c was ∧ a = ⟨(m.pick c was).c, c, (m.pick c was).tk, 0, false, msg0, []⟩ ∧ m' = (m.pick c was).m) : ModS m o a m' :=
  ⟨fun _ => hb, fun h' => absurd h' (by omega), fun h' => absurd h' (by omega), fun h' => absurd h' (by omega), fun h' => absurd h' (by omega), fun h' => absurd h' (by omega), fun h' => absurd h' (by omega), fun h' => absurd h' (by omega), fun h' => absurd h' (by omega), fun h' => absurd h' (by omega), fun h' => absurd h' (by omega), fun h' => absurd h' (by omega), fun h' => absurd h' (by omega)⟩
theorem mods_k1 {m m' : Mdl} {o : OpS} {a : Ans} (h : o.kd = 1) (hb : ∃ (b : Nat) (z : Int) (hm : Bool) (mm : MsgV), b < 16 ∧ o.a % 16 = b ∧ a = ⟨z, ((b % 4 : Nat) : Int), -1, 0, hm, mm, []⟩ ∧ ((m.bx b = [] ∧ z = 2 ∧ hm = false ∧ mm = msg0 ∧ m' = m) ∨ ∃ l, m.bx b = mm :: l ∧ z = 0 ∧ hm = true ∧ m' = m.deliver b)) : ModS m o a m' :=
  ⟨fun h' => absurd h' (by omega), fun _ => hb, fun h' => absurd h' (by omega), fun h' => absurd h' (by omega), fun h' => absurd h' (by omega), fun h' => absurd h' (by omega), fun h' => absurd h' (by omega), fun h' => absurd h' (by omega), fun h' => absurd h' (by omega), fun h' => absurd h' (by omega), fun h' => absurd h' (by omega), fun h' => absurd h' (by omega), fun h' => absurd h' (by omega)⟩
theorem mods_k2 {m m' : Mdl} {o : OpS} {a : Ans} (h : o.kd = 2) (hb : ∃ fs, a = ⟨0, -1, -1, 0, false, msg0, fs⟩ ∧ TickM m 1 fs m') : ModS m o a m' :=
  ⟨fun h' => absurd h' (by omega), fun h' => absurd h' (by omega), fun _ => hb, fun h' => absurd h' (by omega), fun h' => absurd h' (by omega), fun h' => absurd h' (by omega), fun h' => absurd h' (by omega), fun h' => absurd h' (by omega), fun h' => absurd h' (by omega), fun h' => absurd h' (by omega), fun h' => absurd h' (by omega), fun h' => absurd h' (by omega), fun h' => absurd h' (by omega)⟩
theorem mods_k3 {m m' : Mdl} {o : OpS} {a : Ans} (h : o.kd = 3) (hb : ∃ fs, a = ⟨0, -1, -1, 0, false, msg0, fs⟩ ∧ TickM m o.x fs m') : ModS m o a m' :=
  ⟨fun h' => absurd h' (by omega), fun h' => absurd h' (by omega), fun h' => absurd h' (by omega), fun _ => hb, fun h' => absurd h' (by omega), fun h' => absurd h' (by omega), fun h' => absurd h' (by omega), fun h' => absurd h' (by omega), fun h' => absurd h' (by omega), fun h' => absurd h' (by omega), fun h' => absurd h' (by omega), fun h' => absurd h' (by omega), fun h' => absurd h' (by omega)⟩
theorem mods_k4 {m m' : Mdl} {o : OpS} {a : Ans} (h : o.kd = 4) (hb : ∃ z co : Int, a = ⟨z, co, -1, 0, false, msg0, []⟩ ∧ SendM m o z co m') : ModS m o a m' :=
  ⟨fun h' => absurd h' (by omega), fun h' => absurd h' (by omega), fun h' => absurd h' (by omega), fun h' => absurd h' (by omega), fun _ => hb, fun h' => absurd h' (by omega), fun h' => absurd h' (by omega), fun h' => absurd h' (by omega), fun h' => absurd h' (by omega), fun h' => absurd h' (by omega), fun h' => absurd h' (by omega), fun h' => absurd h' (by omega), fun h' => absurd h' (by omega)⟩
theorem mods_k5 {m m' : Mdl} {o : OpS} {a : Ans} (h : o.kd = 5) (hb : ∃ z co : Int, a = ⟨z, co, -1, 0, false, msg0, []⟩ ∧ BcM m o z co m') : ModS m o a m' :=
  ⟨fun h' => absurd h' (by omega), fun h' => absurd h' (by omega), fun h' => absurd h' (by omega), fun h' => absurd h' (by omega), fun h' => absurd h' (by omega), fun _ => hb, fun h' => absurd h' (by omega), fun h' => absurd h' (by omega), fun h' => absurd h' (by omega), fun h' => absurd h' (by omega), fun h' => absurd h' (by omega), fun h' => absurd h' (by omega), fun h' => absurd h' (by omega)⟩
theorem mods_k6 {m m' : Mdl} {o : OpS} {a : Ans} (h : o.kd = 6) (hb : ∃ z co tm : Int, a = ⟨z, co, -1, tm, false, msg0, []⟩ ∧ ArmM m o.a o.x o.y z co tm m') : ModS m o a m' :=
  ⟨fun h' => absurd h' (by omega), fun h' => absurd h' (by omega), fun h' => absurd h' (by omega), fun h' => absurd h' (by omega), fun h' => absurd h' (by omega), fun h' => absurd h' (by omega), fun _ => hb, fun h' => absurd h' (by omega), fun h' => absurd h' (by omega), fun h' => absurd h' (by omega), fun h' => absurd h' (by omega), fun h' => absurd h' (by omega), fun h' => absurd h' (by omega)⟩
theorem mods_k7 {m m' : Mdl} {o : OpS} {a : Ans} (h : o.kd = 7) (hb : ∃ z co tm : Int, a = ⟨z, co, -1, tm, false, msg0, []⟩ ∧ ArmM m o.a (plusI m.now o.x) o.y z co tm m') : ModS m o a m' :=
  ⟨fun h' => absurd h' (by omega), fun h' => absurd h' (by omega), fun h' => absurd h' (by omega), fun h' => absurd h' (by omega), fun h' => absurd h' (by omega), fun h' => absurd h' (by omega), fun h' => absurd h' (by omega), fun _ => hb, fun h' => absurd h' (by omega), fun h' => absurd h' (by omega), fun h' => absurd h' (by omega), fun h' => absurd h' (by omega), fun h' => absurd h' (by omega)⟩
theorem mods_k8 {m m' : Mdl} {o : OpS} {a : Ans} (h : o.kd = 8) (hb : ∃ z co tm : Int, a = ⟨z, co, -1, tm, false, msg0, []⟩ ∧ RearmM m o.x o.y z co tm m') : ModS m o a m' :=
  ⟨fun h' => absurd h' (by omega), fun h' => absurd h' (by omega), fun h' => absurd h' (by omega), fun h' => absurd h' (by omega), fun h' => absurd h' (by omega), fun h' => absurd h' (by omega), fun h' => absurd h' (by omega), fun h' => absurd h' (by omega), fun _ => hb, fun h' => absurd h' (by omega), fun h' => absurd h' (by omega), fun h' => absurd h' (by omega), fun h' => absurd h' (by omega)⟩
theorem mods_k9 {m m' : Mdl} {o : OpS} {a : Ans} (h : o.kd = 9) (hb : ∃ z co tm : Int, a = ⟨z, co, -1, tm, false, msg0, []⟩ ∧ CancelM m o.x z co tm m') : ModS m o a m' :=
  ⟨fun h' => absurd h' (by omega), fun h' => absurd h' (by omega), fun h' => absurd h' (by omega), fun h' => absurd h' (by omega), fun h' => absurd h' (by omega), fun h' => absurd h' (by omega), fun h' => absurd h' (by omega), fun h' => absurd h' (by omega), fun h' => absurd h' (by omega), fun _ => hb, fun h' => absurd h' (by omega), fun h' => absurd h' (by omega), fun h' => absurd h' (by omega)⟩
theorem mods_k10 {m m' : Mdl} {o : OpS} {a : Ans} (h : o.kd = 10) (hb : ∃ z co tk : Int, a = ⟨z, co, tk, 0, false, msg0, []⟩ ∧ AttM m o z co tk m') : ModS m o a m' :=
  ⟨fun h' => absurd h' (by omega), fun h' => absurd h' (by omega), fun h' => absurd h' (by omega), fun h' => absurd h' (by omega), fun h' => absurd h' (by omega), fun h' => absurd h' (by omega), fun h' => absurd h' (by omega), fun h' => absurd h' (by omega), fun h' => absurd h' (by omega), fun h' => absurd h' (by omega), fun _ => hb, fun h' => absurd h' (by omega), fun h' => absurd h' (by omega)⟩
theorem mods_k11 {m m' : Mdl} {o : OpS} {a : Ans} (h : 11 ≤ o.kd ∧ o.kd ≤ 16) (hb : ∃ z co tk : Int, a = ⟨z, co, tk, 0, false, msg0, []⟩ ∧ OnM m o z co tk m') : ModS m o a m' :=
  ⟨fun h' => absurd h' (by omega), fun h' => absurd h' (by omega), fun h' => absurd h' (by omega), fun h' => absurd h' (by omega), fun h' => absurd h' (by omega), fun h' => absurd h' (by omega), fun h' => absurd h' (by omega), fun h' => absurd h' (by omega), fun h' => absurd h' (by omega), fun h' => absurd h' (by omega), fun h' => absurd h' (by omega), fun _ => hb, fun h' => absurd h' (by omega)⟩
theorem mods_kx {m m' : Mdl} {o : OpS} {a : Ans} (h : 16 < o.kd) (hb : a = ⟨3, -1, -1, 0, false, msg0, []⟩ ∧ m' = m) : ModS m o a m' :=
  ⟨fun h' => absurd h' (by omega), fun h' => absurd h' (by omega), fun h' => absurd h' (by omega), fun h' => absurd h' (by omega), fun h' => absurd h' (by omega), fun h' => absurd h' (by omega), fun h' => absurd h' (by omega), fun h' => absurd h' (by omega), fun h' => absurd h' (by omega), fun h' => absurd h' (by omega), fun h' => absurd h' (by omega), fun h' => absurd h' (by omega), fun _ => hb⟩
/-- What the model's walks ask of it. -/
structure MOk (m : Mdl) : Prop where
  wl : ∀ c, c < 4 → (m.wt c).length ≤ 800
  wm : ∀ c, c < 4 → ∀ t ∈ m.wt c, t < 16 ∧ (m.tk t).2.1 = c
  bl : ∀ b, b < 16 → (m.bx b).length ≤ 800
  tl : m.tm.length ≤ 800
  tc : ∀ t ∈ m.tm, 0 ≤ t.core ∧ t.core < 4
  hh : ∀ t, t < 16 → (m.tk t).1 ≠ 0 → ∃ c : Nat, c < 4 ∧ (m.tk t).2.1 = c
  nw : 0 ≤ m.now ∧ m.now < 18446744073709551616
theorem FrAt.mono {w : World} {base base' : Nat} {v : Value} {l : List FiredS} (h : FrAt w base v l) (hb : base' ≤ base) : FrAt w base' v l := by
  rcases h with h | ⟨g, cap, e, h1, h2⟩
  · exact .inl h
  · exact .inr ⟨g, cap, e, Nat.le_trans hb h1, h2⟩
theorem armM_now {m m' : Mdl} {c d ck z co tm : Int} (h : ArmM m c d ck z co tm m') : m'.now = m.now := by
  rcases h with ⟨_, _, _, _, rfl⟩ | ⟨_, ⟨_, _, _, _, rfl⟩ | ⟨_, _, _, _, rfl⟩⟩ <;> rfl
end Go.Proofs.Qxb6500877aGreatDoor
