import Derived.Test.Qxb6500877aGreatDoorPMa
set_option linter.unusedVariables false
set_option linter.unusedSimpArgs false
namespace Go.Proofs.Qxb6500877aGreatDoor
open Go.RowKit



def nodeKind : Nat → Value
  | 0 => .int .u64 0
  | 1 => .int .i64 0
  | 2 => .int .u64 0
  | 3 => .int .u64 0
  | 4 => .int .i16 0
  | 5 => .int .i16 0
  | 6 => .int .i8 0
  | _ => .int .u8 0
def zWheel (o : Nat) : Value :=
  if o = 0 then .int .u64 0 else if o < 513 then nodeKind ((o - 1) % 8) else if o = 513 then .int .i16 0 else if o = 514 then .int .i64 0 else if o = 515 then .int .u64 0 else if o = 516 then .map none else if o < 1927 then .int .i16 0 else .int .u64 0
def zBox (o : Nat) : Value := if o < 288 then (if o % 9 < 2 then .int .i64 0 else if o % 9 = 2 then .int .u32 0 else .int .u64 0) else if o < 290 then .int .i64 0 else .int .u64 0
def zTask (o : Nat) : Value := if o = 0 then .int .u8 0 else if o = 1 then .int .i64 0 else .int .i8 0
def zQ (o : Nat) : Value := if o < 8 then .int .i8 0 else if o = 8 then .int .u8 0 else .int .i64 0
/-- The cells of a machine that is all zero. -/
def zcell (o : Nat) : Value :=
  if o = 0 then .int .u64 0 else if o < 1939 then zWheel (o - 1) else if o < 6595 then zBox ((o - 1939) % 291) else if o = 6595 then .int .u16 0 else if o < 6676 then zTask ((o - 6596) % 5) else if o < 6716 then zQ ((o - 6676) % 10) else if o < 6724 then .int .i64 0 else if o < 6752 then .int .u64 0 else .nilIface
def zcells : Array Value := ((List.range 6753).map zcell).toArray
theorem zero190 : Tryz.t190.zero = some (.agg ((List.range 6753).map zcell).toArray) := by kernel_rfl
theorem build190 (w : World) : (Instr.build 190 #[(5, .nilIface)]).run Tryz.prog w = .ok (.agg zcells) w := by kernel_rfl

end Go.Proofs.Qxb6500877aGreatDoor
