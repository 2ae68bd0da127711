import Derived.Deep.CutBlock
import Derived.OwnWalk
import Derived.Maps.AppendAt
import Derived.Maps.OwnSet
import Derived.Maps.OwnOps
import Derived.Laws.ResultCell
import Derived.Laws.AppendOwnNone
import Derived.Lib.ReflectliteSwap
import Derived.Lib.ReflectliteSlice
import Derived.Laws.Externs
import Derived.Test.Qxb6500880aGreatSe
set_option linter.unusedVariables false
set_option linter.unusedSimpArgs false
namespace Go.Proofs.Qxb6500880aGreat
open Go.RowKit

theorem callE {P : Program} {f : FuncId} {fn : Func} {e : Array Value → Sem Value} {args : Array Value} {w : World} {r : Result Value} (hf : P.funcs[f]? = some fn) (hname : (fn.name == "runtime.NumGoroutine") = false) (hb : fn.body.isNone = true) (hn : Extern.findNext fn = none) (he : Extern.find fn = some e) (hr : (e args).run P w = r) : (callFunc f args).run P w = r.andThen fun v w' => .ok (.value v) w' := by
  rw [run_callFunc_extern hf hname hb hn he, hr]
theorem desc41 : (Tryz.prog.info? 41).map (fun i => i.desc) = some (.slice 3) := by kernel_rfl
theorem info3p : (Tryz.prog.info? 3).map (fun i => (i.hasPointers, i.bytes)) = some (false, 8) := by kernel_rfl
theorem desc_parts {T : TypeId} {d : TypeDesc} (h : (Tryz.prog.info? T).map (fun i => i.desc) = some d) : ∃ i, Tryz.prog.info? T = some i ∧ i.desc = d := by
  cases hi : Tryz.prog.info? T with
  | none => rw [hi] at h; simp at h
  | some i => rw [hi] at h; simp at h; exact ⟨i, rfl, h⟩
open Go.Lib in
/-- Which of Swapper's functions it is. -/
def swF (n : Nat) : Nat := if n = 0 then 88 else if n = 1 then 89 else 92
open Go.Lib in
set_option maxRecDepth 20000 in
set_option maxHeartbeats 8000000 in
theorem sliceStable_any {w : World} {n c LX SX : Nat} {p : Option Addr} {Post : World → Prop} (hn : n < 4611686018427387904)
    (hst : Calls Tryz.prog 70 #[.agg #[(.func (.func 53) #[] #[.pointer (some ⟨LX, 0, none⟩), .pointer (some ⟨SX, 0, none⟩)]), .func (.func (swF n)) #[] (if n ≤ 1 then (#[] : Array Value) else #[.slice p n c, typeHandle Tryz.prog 3])], .int .i64 (n : Int)] ((w.alloc (.cells #[.slice p n c] 41)).alloc (.cells #[typeHandle Tryz.prog 41, .pointer (some ⟨w.heap.size, 0, none⟩), .int .u64 151] 206)) fun e w' => e = .returned (.tuple #[]) ∧ Post w') :
    Calls Tryz.prog 52 #[.iface 41 (.slice p n c), (.func (.func 53) #[] #[.pointer (some ⟨LX, 0, none⟩), .pointer (some ⟨SX, 0, none⟩)])] w fun e w' => e = .returned (.tuple #[]) ∧ Post w' := by
  obtain ⟨i, hi, hd⟩ := desc_parts desc41
  obtain ⟨ie, hie, hp⟩ : ∃ ie, Tryz.prog.info? 3 = some ie ∧ (ie.hasPointers, ie.bytes) = (false, 8) := by
    have h := info3p
    cases hi : Tryz.prog.info? 3 with
    | none => rw [hi] at h; simp at h
    | some ie => rw [hi] at h; exact ⟨ie, rfl, Option.some.inj h⟩
  have hp1 : ie.hasPointers = false := congrArg Prod.fst hp
  have hp2 : ie.bytes = 8 := congrArg Prod.snd hp
  have hk : swapperK n ie 2 = if n = 0 then 1 else if n = 1 then 2 else 5 := by
    unfold swapperK
    rw [hp1, hp2]
    by_cases h0 : n = 0
    · subst h0; rfl
    · by_cases h1 : n = 1
      · subst h1; rfl
      · simp [h0, h1]
  have hB : (if swapperK n ie 2 ≤ 2 then (#[] : Array Value) else #[.slice p n c, typeHandle Tryz.prog 3]) = if n ≤ 1 then (#[] : Array Value) else #[.slice p n c, typeHandle Tryz.prog 3] := by
    rw [hk]
    by_cases h0 : n = 0
    · subst h0; rfl
    · by_cases h1 : n = 1
      · subst h1; rfl
      · rw [if_neg h0, if_neg h1, if_neg (by omega), if_neg (by omega)]
  have hv := run_valueOf_slice (P := Tryz.prog) 41 3 i hi hd p n c w
  have hs := fun w => run_swapper_slice (P := Tryz.prog) 41 3 i ie hi hd hie 2 (fun _ => by kernel_rfl) p n c (swF n) (by
      rw [hk]
      unfold swF
      by_cases h0 : n = 0
      · rw [if_pos h0, if_pos h0]; kernel_rfl
      · rw [if_neg h0, if_neg h0]
        by_cases h1 : n = 1
        · rw [if_pos h1, if_pos h1]; kernel_rfl
        · rw [if_neg h1, if_neg h1]; kernel_rfl) w
  rw [hB] at hs
  have hl := fun a w ha => run_valueLen_slice (P := Tryz.prog) 41 3 i hi hd (by kernel_rfl) a p n c w ha
  generalize (if n ≤ 1 then (#[] : Array Value) else #[.slice p n c, typeHandle Tryz.prog 3]) = B at hs hst
  clear hB hk hp hp1 hp2 hie hi hd
  generalize swF n = f2 at *
  have hgs : Tryz.prog.globals.size = 1 := by kernel_rfl
  simp only [typeHandle, hgs] at hv hl hst
  go_enter Tryz.func52, Tryz.ntmps52
  go_wp2
  rw [run_callFunc_extern Tryz.func68 (by kernel_rfl) (by kernel_rfl) (by kernel_rfl) (e := fun args => Extern.ReflectliteValue.unpack (args.getD 0 (.tuple #[]))) (by kernel_rfl),
    show Sem.run Tryz.prog ((fun args : Array Value => Extern.ReflectliteValue.unpack (args.getD 0 (.tuple #[]))) #[.iface 41 (.slice p n c)]) w = _ from hv]
  simp only [Result.andThen]
  rw [Oper.upon_value]
  go_wp2
  rw [callE Tryz.func69 (by kernel_rfl) (by kernel_rfl) (by kernel_rfl) (by kernel_rfl) (hs _)]
  simp only [Result.andThen]
  rw [Oper.upon_value]
  go_wp2
  rw [run_callFunc_extern Tryz.func71 (by kernel_rfl) (by kernel_rfl) (by kernel_rfl) (e := Extern.ReflectliteValue.method (Extern.ReflectliteValue.valueError "reflectlite.Value.Len" 0) Extern.ReflectliteValue.len) (by kernel_rfl),
    hl _ _ (by simp)]
  simp only [Result.andThen]
  rw [Oper.upon_value]
  go_wp2_with fail
  refine hst.mono ?_
  rintro e w' ⟨rfl, hR⟩
  have HR := hideIt hR
  clear hR
  go_wp2
  go_end0
  exact ⟨rfl, HR.out⟩
end Go.Proofs.Qxb6500880aGreat
