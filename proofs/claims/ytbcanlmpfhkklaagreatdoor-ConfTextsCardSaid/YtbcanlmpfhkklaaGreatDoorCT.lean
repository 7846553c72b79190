/- What the layer asks of this program: its types as a table, its functions as called. Printed by seat.py. -/
import Derived.Lib.TrailingZeros
import Derived.Lib.ItoaNum
import Derived.Test.YtbcanlmpfhkklaaGreatDoorChecked
import Derived.Test.YtbcanlmpfhkklaaGreatDoorCE4
set_option linter.unusedSimpArgs false
set_option linter.unusedVariables false
namespace Go.Proofs.YtbcanlmpfhkklaaGreatDoor
open Go.Ax
open Cel (c)

def tabs : Nat → Option (List AV)
  | 0 => some (Lib.deBruijn64tab.map fun n => .v (.int .u8 (n : Nat)))
  | 1 => some [.num .i64]
  | 2 => some (Lib.pow10Tab.map fun n => .v (.int .u64 n))
  | 5 => some [.iface 174 .any]
  | 6 => some [.iface 174 .any]
  | _ => none

instance : Tabs := { tab := tabs, msp := fun t => Nat.beq t 5 }
def badT : TI := ⟨.invalid, false, 0, 0, .nilFunc, false⟩
def ty0 : TI := { und := TypeDesc.tuple #[], agg := false, size := 1, bytes := 0, zero := (Value.tuple #[]), ok := true }
def ty1 : TI := { und := TypeDesc.func #[] #[] false, agg := false, size := 1, bytes := 8, zero := Value.nilFunc, ok := true }
def ty2 : TI := { und := TypeDesc.int IntKind.i64, agg := false, size := 1, bytes := 8, zero := (Value.int IntKind.i64 0), ok := true }
def ty3 : TI := { und := TypeDesc.int IntKind.i64, agg := false, size := 1, bytes := 8, zero := (Value.int IntKind.i64 0), ok := true }
def ty4 : TI := { und := TypeDesc.bool, agg := false, size := 1, bytes := 1, zero := (Value.bool false), ok := true }
def ty5 : TI := { und := TypeDesc.int IntKind.u8, agg := false, size := 1, bytes := 1, zero := (Value.int IntKind.u8 0), ok := true }
def ty6 : TI := { und := TypeDesc.int IntKind.u8, agg := false, size := 1, bytes := 1, zero := (Value.int IntKind.u8 0), ok := true }
def ty7 : TI := { und := TypeDesc.struct #[{ name := "x", type := 2, offset := 0, embedded := false, tag := "", pkgPath := "runtime", byteOffset := 0 }, { name := "y", type := 3, offset := 1, embedded := false, tag := "", pkgPath := "runtime", byteOffset := 8 }, { name := "signed", type := 4, offset := 2, embedded := false, tag := "", pkgPath := "runtime", byteOffset := 16 }, { name := "code", type := 6, offset := 3, embedded := false, tag := "", pkgPath := "runtime", byteOffset := 17 }], agg := true, size := 4, bytes := 24, zero := (Value.agg #[Value.int IntKind.i64 0, Value.int IntKind.i64 0, Value.bool false, Value.int IntKind.u8 0]), ok := true }
def ty8 : TI := { und := TypeDesc.struct #[{ name := "x", type := 2, offset := 0, embedded := false, tag := "", pkgPath := "runtime", byteOffset := 0 }, { name := "y", type := 3, offset := 1, embedded := false, tag := "", pkgPath := "runtime", byteOffset := 8 }, { name := "signed", type := 4, offset := 2, embedded := false, tag := "", pkgPath := "runtime", byteOffset := 16 }, { name := "code", type := 6, offset := 3, embedded := false, tag := "", pkgPath := "runtime", byteOffset := 17 }], agg := true, size := 4, bytes := 24, zero := (Value.agg #[Value.int IntKind.i64 0, Value.int IntKind.i64 0, Value.bool false, Value.int IntKind.u8 0]), ok := true }
def ty9 : TI := { und := TypeDesc.string, agg := false, size := 1, bytes := 16, zero := (Value.string { data := #[] }), ok := true }
def ty10 : TI := { und := TypeDesc.string, agg := false, size := 1, bytes := 16, zero := (Value.string { data := #[] }), ok := true }
def ty11 : TI := { und := TypeDesc.string, agg := false, size := 1, bytes := 16, zero := (Value.string { data := #[] }), ok := true }
def ty12 : TI := { und := TypeDesc.int IntKind.u64, agg := false, size := 1, bytes := 8, zero := (Value.int IntKind.u64 0), ok := true }
def ty13 : TI := { und := TypeDesc.struct #[{ name := "msg", type := 9, offset := 0, embedded := false, tag := "", pkgPath := "runtime", byteOffset := 0 }, { name := "addr", type := 12, offset := 1, embedded := false, tag := "", pkgPath := "runtime", byteOffset := 16 }], agg := true, size := 2, bytes := 24, zero := (Value.agg #[Value.string { data := #[] }, Value.int IntKind.u64 0]), ok := true }
def ty14 : TI := { und := TypeDesc.struct #[{ name := "msg", type := 9, offset := 0, embedded := false, tag := "", pkgPath := "runtime", byteOffset := 0 }, { name := "addr", type := 12, offset := 1, embedded := false, tag := "", pkgPath := "runtime", byteOffset := 16 }], agg := true, size := 2, bytes := 24, zero := (Value.agg #[Value.string { data := #[] }, Value.int IntKind.u64 0]), ok := true }
def ty15 : TI := { und := TypeDesc.pointer 179, agg := false, size := 1, bytes := 8, zero := (Value.pointer none), ok := true }
def ty16 : TI := { und := TypeDesc.pointer 182, agg := false, size := 1, bytes := 8, zero := (Value.pointer none), ok := true }
def ty17 : TI := { und := TypeDesc.pointer 190, agg := false, size := 1, bytes := 8, zero := (Value.pointer none), ok := true }
def ty18 : TI := { und := TypeDesc.struct #[{ name := "typ", type := 17, offset := 0, embedded := false, tag := "", pkgPath := "internal/runtime/maps", byteOffset := 0 }], agg := true, size := 1, bytes := 8, zero := (Value.agg #[Value.pointer none]), ok := true }
def ty19 : TI := { und := TypeDesc.struct #[{ name := "typ", type := 17, offset := 0, embedded := false, tag := "", pkgPath := "internal/runtime/maps", byteOffset := 0 }], agg := true, size := 1, bytes := 8, zero := (Value.agg #[Value.pointer none]), ok := true }
def ty20 : TI := { und := TypeDesc.interface #[], agg := false, size := 1, bytes := 16, zero := Value.nilIface, ok := true }
def ty21 : TI := { und := TypeDesc.int IntKind.i32, agg := false, size := 1, bytes := 4, zero := (Value.int IntKind.i32 0), ok := true }
def ty22 : TI := { und := TypeDesc.struct #[{ name := "Current", type := 3, offset := 0, embedded := false, tag := "", pkgPath := "", byteOffset := 0 }, { name := "Vote", type := 3, offset := 1, embedded := false, tag := "", pkgPath := "", byteOffset := 8 }, { name := "Config", type := 3, offset := 2, embedded := false, tag := "", pkgPath := "", byteOffset := 16 }], agg := true, size := 3, bytes := 24, zero := (Value.agg #[Value.int IntKind.i64 0, Value.int IntKind.i64 0, Value.int IntKind.i64 0]), ok := true }
def ty23 : TI := { und := TypeDesc.struct #[{ name := "Current", type := 3, offset := 0, embedded := false, tag := "", pkgPath := "", byteOffset := 0 }, { name := "Vote", type := 3, offset := 1, embedded := false, tag := "", pkgPath := "", byteOffset := 8 }, { name := "Config", type := 3, offset := 2, embedded := false, tag := "", pkgPath := "", byteOffset := 16 }], agg := true, size := 3, bytes := 24, zero := (Value.agg #[Value.int IntKind.i64 0, Value.int IntKind.i64 0, Value.int IntKind.i64 0]), ok := true }
def ty24 : TI := { und := TypeDesc.slice 50, agg := false, size := 1, bytes := 24, zero := (Value.slice none 0 0), ok := true }
def ty25 : TI := { und := TypeDesc.array 64 3, agg := true, size := 64, bytes := 512, zero := (Value.agg #[Value.int IntKind.i64 0, Value.int IntKind.i64 0, Value.int IntKind.i64 0, Value.int IntKind.i64 0, Value.int IntKind.i64 0, Value.int IntKind.i64 0, Value.int IntKind.i64 0, Value.int IntKind.i64 0, Value.int IntKind.i64 0, Value.int IntKind.i64 0, Value.int IntKind.i64 0, Value.int IntKind.i64 0, Value.int IntKind.i64 0, Value.int IntKind.i64 0, Value.int IntKind.i64 0, Value.int IntKind.i64 0, Value.int IntKind.i64 0, Value.int IntKind.i64 0, Value.int IntKind.i64 0, Value.int IntKind.i64 0, Value.int IntKind.i64 0, Value.int IntKind.i64 0, Value.int IntKind.i64 0, Value.int IntKind.i64 0, Value.int IntKind.i64 0, Value.int IntKind.i64 0, Value.int IntKind.i64 0, Value.int IntKind.i64 0, Value.int IntKind.i64 0, Value.int IntKind.i64 0, Value.int IntKind.i64 0, Value.int IntKind.i64 0, Value.int IntKind.i64 0, Value.int IntKind.i64 0, Value.int IntKind.i64 0, Value.int IntKind.i64 0, Value.int IntKind.i64 0, Value.int IntKind.i64 0, Value.int IntKind.i64 0, Value.int IntKind.i64 0, Value.int IntKind.i64 0, Value.int IntKind.i64 0, Value.int IntKind.i64 0, Value.int IntKind.i64 0, Value.int IntKind.i64 0, Value.int IntKind.i64 0, Value.int IntKind.i64 0, Value.int IntKind.i64 0, Value.int IntKind.i64 0, Value.int IntKind.i64 0, Value.int IntKind.i64 0, Value.int IntKind.i64 0, Value.int IntKind.i64 0, Value.int IntKind.i64 0, Value.int IntKind.i64 0, Value.int IntKind.i64 0, Value.int IntKind.i64 0, Value.int IntKind.i64 0, Value.int IntKind.i64 0, Value.int IntKind.i64 0, Value.int IntKind.i64 0, Value.int IntKind.i64 0, Value.int IntKind.i64 0, Value.int IntKind.i64 0]), ok := true }
def ty26 : TI := { und := TypeDesc.struct #[{ name := "Owner", type := 25, offset := 0, embedded := false, tag := "", pkgPath := "", byteOffset := 0 }, { name := "Epoch", type := 25, offset := 64, embedded := false, tag := "", pkgPath := "", byteOffset := 512 }], agg := true, size := 128, bytes := 1024, zero := (Value.agg ([Value.int IntKind.i64 0, Value.int IntKind.i64 0, Value.int IntKind.i64 0, Value.int IntKind.i64 0, Value.int IntKind.i64 0, Value.int IntKind.i64 0, Value.int IntKind.i64 0, Value.int IntKind.i64 0, Value.int IntKind.i64 0, Value.int IntKind.i64 0, Value.int IntKind.i64 0, Value.int IntKind.i64 0, Value.int IntKind.i64 0, Value.int IntKind.i64 0, Value.int IntKind.i64 0, Value.int IntKind.i64 0, Value.int IntKind.i64 0, Value.int IntKind.i64 0, Value.int IntKind.i64 0, Value.int IntKind.i64 0, Value.int IntKind.i64 0, Value.int IntKind.i64 0, Value.int IntKind.i64 0, Value.int IntKind.i64 0, Value.int IntKind.i64 0, Value.int IntKind.i64 0, Value.int IntKind.i64 0, Value.int IntKind.i64 0, Value.int IntKind.i64 0, Value.int IntKind.i64 0, Value.int IntKind.i64 0, Value.int IntKind.i64 0, Value.int IntKind.i64 0, Value.int IntKind.i64 0, Value.int IntKind.i64 0, Value.int IntKind.i64 0, Value.int IntKind.i64 0, Value.int IntKind.i64 0, Value.int IntKind.i64 0, Value.int IntKind.i64 0, Value.int IntKind.i64 0, Value.int IntKind.i64 0, Value.int IntKind.i64 0, Value.int IntKind.i64 0, Value.int IntKind.i64 0, Value.int IntKind.i64 0, Value.int IntKind.i64 0, Value.int IntKind.i64 0, Value.int IntKind.i64 0, Value.int IntKind.i64 0, Value.int IntKind.i64 0, Value.int IntKind.i64 0, Value.int IntKind.i64 0, Value.int IntKind.i64 0, Value.int IntKind.i64 0, Value.int IntKind.i64 0, Value.int IntKind.i64 0, Value.int IntKind.i64 0, Value.int IntKind.i64 0, Value.int IntKind.i64 0, Value.int IntKind.i64 0, Value.int IntKind.i64 0, Value.int IntKind.i64 0, Value.int IntKind.i64 0].append [Value.int IntKind.i64 0, Value.int IntKind.i64 0, Value.int IntKind.i64 0, Value.int IntKind.i64 0, Value.int IntKind.i64 0, Value.int IntKind.i64 0, Value.int IntKind.i64 0, Value.int IntKind.i64 0, Value.int IntKind.i64 0, Value.int IntKind.i64 0, Value.int IntKind.i64 0, Value.int IntKind.i64 0, Value.int IntKind.i64 0, Value.int IntKind.i64 0, Value.int IntKind.i64 0, Value.int IntKind.i64 0, Value.int IntKind.i64 0, Value.int IntKind.i64 0, Value.int IntKind.i64 0, Value.int IntKind.i64 0, Value.int IntKind.i64 0, Value.int IntKind.i64 0, Value.int IntKind.i64 0, Value.int IntKind.i64 0, Value.int IntKind.i64 0, Value.int IntKind.i64 0, Value.int IntKind.i64 0, Value.int IntKind.i64 0, Value.int IntKind.i64 0, Value.int IntKind.i64 0, Value.int IntKind.i64 0, Value.int IntKind.i64 0, Value.int IntKind.i64 0, Value.int IntKind.i64 0, Value.int IntKind.i64 0, Value.int IntKind.i64 0, Value.int IntKind.i64 0, Value.int IntKind.i64 0, Value.int IntKind.i64 0, Value.int IntKind.i64 0, Value.int IntKind.i64 0, Value.int IntKind.i64 0, Value.int IntKind.i64 0, Value.int IntKind.i64 0, Value.int IntKind.i64 0, Value.int IntKind.i64 0, Value.int IntKind.i64 0, Value.int IntKind.i64 0, Value.int IntKind.i64 0, Value.int IntKind.i64 0, Value.int IntKind.i64 0, Value.int IntKind.i64 0, Value.int IntKind.i64 0, Value.int IntKind.i64 0, Value.int IntKind.i64 0, Value.int IntKind.i64 0, Value.int IntKind.i64 0, Value.int IntKind.i64 0, Value.int IntKind.i64 0, Value.int IntKind.i64 0, Value.int IntKind.i64 0, Value.int IntKind.i64 0, Value.int IntKind.i64 0, Value.int IntKind.i64 0]).toArray), ok := true }
def ty27 : TI := { und := TypeDesc.struct #[{ name := "Owner", type := 25, offset := 0, embedded := false, tag := "", pkgPath := "", byteOffset := 0 }, { name := "Epoch", type := 25, offset := 64, embedded := false, tag := "", pkgPath := "", byteOffset := 512 }], agg := true, size := 128, bytes := 1024, zero := (Value.agg ([Value.int IntKind.i64 0, Value.int IntKind.i64 0, Value.int IntKind.i64 0, Value.int IntKind.i64 0, Value.int IntKind.i64 0, Value.int IntKind.i64 0, Value.int IntKind.i64 0, Value.int IntKind.i64 0, Value.int IntKind.i64 0, Value.int IntKind.i64 0, Value.int IntKind.i64 0, Value.int IntKind.i64 0, Value.int IntKind.i64 0, Value.int IntKind.i64 0, Value.int IntKind.i64 0, Value.int IntKind.i64 0, Value.int IntKind.i64 0, Value.int IntKind.i64 0, Value.int IntKind.i64 0, Value.int IntKind.i64 0, Value.int IntKind.i64 0, Value.int IntKind.i64 0, Value.int IntKind.i64 0, Value.int IntKind.i64 0, Value.int IntKind.i64 0, Value.int IntKind.i64 0, Value.int IntKind.i64 0, Value.int IntKind.i64 0, Value.int IntKind.i64 0, Value.int IntKind.i64 0, Value.int IntKind.i64 0, Value.int IntKind.i64 0, Value.int IntKind.i64 0, Value.int IntKind.i64 0, Value.int IntKind.i64 0, Value.int IntKind.i64 0, Value.int IntKind.i64 0, Value.int IntKind.i64 0, Value.int IntKind.i64 0, Value.int IntKind.i64 0, Value.int IntKind.i64 0, Value.int IntKind.i64 0, Value.int IntKind.i64 0, Value.int IntKind.i64 0, Value.int IntKind.i64 0, Value.int IntKind.i64 0, Value.int IntKind.i64 0, Value.int IntKind.i64 0, Value.int IntKind.i64 0, Value.int IntKind.i64 0, Value.int IntKind.i64 0, Value.int IntKind.i64 0, Value.int IntKind.i64 0, Value.int IntKind.i64 0, Value.int IntKind.i64 0, Value.int IntKind.i64 0, Value.int IntKind.i64 0, Value.int IntKind.i64 0, Value.int IntKind.i64 0, Value.int IntKind.i64 0, Value.int IntKind.i64 0, Value.int IntKind.i64 0, Value.int IntKind.i64 0, Value.int IntKind.i64 0].append [Value.int IntKind.i64 0, Value.int IntKind.i64 0, Value.int IntKind.i64 0, Value.int IntKind.i64 0, Value.int IntKind.i64 0, Value.int IntKind.i64 0, Value.int IntKind.i64 0, Value.int IntKind.i64 0, Value.int IntKind.i64 0, Value.int IntKind.i64 0, Value.int IntKind.i64 0, Value.int IntKind.i64 0, Value.int IntKind.i64 0, Value.int IntKind.i64 0, Value.int IntKind.i64 0, Value.int IntKind.i64 0, Value.int IntKind.i64 0, Value.int IntKind.i64 0, Value.int IntKind.i64 0, Value.int IntKind.i64 0, Value.int IntKind.i64 0, Value.int IntKind.i64 0, Value.int IntKind.i64 0, Value.int IntKind.i64 0, Value.int IntKind.i64 0, Value.int IntKind.i64 0, Value.int IntKind.i64 0, Value.int IntKind.i64 0, Value.int IntKind.i64 0, Value.int IntKind.i64 0, Value.int IntKind.i64 0, Value.int IntKind.i64 0, Value.int IntKind.i64 0, Value.int IntKind.i64 0, Value.int IntKind.i64 0, Value.int IntKind.i64 0, Value.int IntKind.i64 0, Value.int IntKind.i64 0, Value.int IntKind.i64 0, Value.int IntKind.i64 0, Value.int IntKind.i64 0, Value.int IntKind.i64 0, Value.int IntKind.i64 0, Value.int IntKind.i64 0, Value.int IntKind.i64 0, Value.int IntKind.i64 0, Value.int IntKind.i64 0, Value.int IntKind.i64 0, Value.int IntKind.i64 0, Value.int IntKind.i64 0, Value.int IntKind.i64 0, Value.int IntKind.i64 0, Value.int IntKind.i64 0, Value.int IntKind.i64 0, Value.int IntKind.i64 0, Value.int IntKind.i64 0, Value.int IntKind.i64 0, Value.int IntKind.i64 0, Value.int IntKind.i64 0, Value.int IntKind.i64 0, Value.int IntKind.i64 0, Value.int IntKind.i64 0, Value.int IntKind.i64 0, Value.int IntKind.i64 0]).toArray), ok := true }
def ty28 : TI := { und := TypeDesc.struct #[{ name := "ID", type := 3, offset := 0, embedded := false, tag := "", pkgPath := "", byteOffset := 0 }, { name := "Master", type := 3, offset := 1, embedded := false, tag := "", pkgPath := "", byteOffset := 8 }, { name := "Epochs", type := 23, offset := 2, embedded := false, tag := "", pkgPath := "", byteOffset := 16 }, { name := "Known", type := 24, offset := 5, embedded := false, tag := "", pkgPath := "", byteOffset := 40 }, { name := "Table", type := 27, offset := 6, embedded := false, tag := "", pkgPath := "", byteOffset := 64 }], agg := true, size := 134, bytes := 1088, zero := (Value.agg (([Value.int IntKind.i64 0, Value.int IntKind.i64 0, Value.int IntKind.i64 0, Value.int IntKind.i64 0, Value.int IntKind.i64 0, Value.slice none 0 0, Value.int IntKind.i64 0, Value.int IntKind.i64 0, Value.int IntKind.i64 0, Value.int IntKind.i64 0, Value.int IntKind.i64 0, Value.int IntKind.i64 0, Value.int IntKind.i64 0, Value.int IntKind.i64 0, Value.int IntKind.i64 0, Value.int IntKind.i64 0, Value.int IntKind.i64 0, Value.int IntKind.i64 0, Value.int IntKind.i64 0, Value.int IntKind.i64 0, Value.int IntKind.i64 0, Value.int IntKind.i64 0, Value.int IntKind.i64 0, Value.int IntKind.i64 0, Value.int IntKind.i64 0, Value.int IntKind.i64 0, Value.int IntKind.i64 0, Value.int IntKind.i64 0, Value.int IntKind.i64 0, Value.int IntKind.i64 0, Value.int IntKind.i64 0, Value.int IntKind.i64 0, Value.int IntKind.i64 0].append [Value.int IntKind.i64 0, Value.int IntKind.i64 0, Value.int IntKind.i64 0, Value.int IntKind.i64 0, Value.int IntKind.i64 0, Value.int IntKind.i64 0, Value.int IntKind.i64 0, Value.int IntKind.i64 0, Value.int IntKind.i64 0, Value.int IntKind.i64 0, Value.int IntKind.i64 0, Value.int IntKind.i64 0, Value.int IntKind.i64 0, Value.int IntKind.i64 0, Value.int IntKind.i64 0, Value.int IntKind.i64 0, Value.int IntKind.i64 0, Value.int IntKind.i64 0, Value.int IntKind.i64 0, Value.int IntKind.i64 0, Value.int IntKind.i64 0, Value.int IntKind.i64 0, Value.int IntKind.i64 0, Value.int IntKind.i64 0, Value.int IntKind.i64 0, Value.int IntKind.i64 0, Value.int IntKind.i64 0, Value.int IntKind.i64 0, Value.int IntKind.i64 0, Value.int IntKind.i64 0, Value.int IntKind.i64 0, Value.int IntKind.i64 0, Value.int IntKind.i64 0, Value.int IntKind.i64 0]).append ([Value.int IntKind.i64 0, Value.int IntKind.i64 0, Value.int IntKind.i64 0, Value.int IntKind.i64 0, Value.int IntKind.i64 0, Value.int IntKind.i64 0, Value.int IntKind.i64 0, Value.int IntKind.i64 0, Value.int IntKind.i64 0, Value.int IntKind.i64 0, Value.int IntKind.i64 0, Value.int IntKind.i64 0, Value.int IntKind.i64 0, Value.int IntKind.i64 0, Value.int IntKind.i64 0, Value.int IntKind.i64 0, Value.int IntKind.i64 0, Value.int IntKind.i64 0, Value.int IntKind.i64 0, Value.int IntKind.i64 0, Value.int IntKind.i64 0, Value.int IntKind.i64 0, Value.int IntKind.i64 0, Value.int IntKind.i64 0, Value.int IntKind.i64 0, Value.int IntKind.i64 0, Value.int IntKind.i64 0, Value.int IntKind.i64 0, Value.int IntKind.i64 0, Value.int IntKind.i64 0, Value.int IntKind.i64 0, Value.int IntKind.i64 0, Value.int IntKind.i64 0].append [Value.int IntKind.i64 0, Value.int IntKind.i64 0, Value.int IntKind.i64 0, Value.int IntKind.i64 0, Value.int IntKind.i64 0, Value.int IntKind.i64 0, Value.int IntKind.i64 0, Value.int IntKind.i64 0, Value.int IntKind.i64 0, Value.int IntKind.i64 0, Value.int IntKind.i64 0, Value.int IntKind.i64 0, Value.int IntKind.i64 0, Value.int IntKind.i64 0, Value.int IntKind.i64 0, Value.int IntKind.i64 0, Value.int IntKind.i64 0, Value.int IntKind.i64 0, Value.int IntKind.i64 0, Value.int IntKind.i64 0, Value.int IntKind.i64 0, Value.int IntKind.i64 0, Value.int IntKind.i64 0, Value.int IntKind.i64 0, Value.int IntKind.i64 0, Value.int IntKind.i64 0, Value.int IntKind.i64 0, Value.int IntKind.i64 0, Value.int IntKind.i64 0, Value.int IntKind.i64 0, Value.int IntKind.i64 0, Value.int IntKind.i64 0, Value.int IntKind.i64 0, Value.int IntKind.i64 0])).toArray), ok := true }
def ty29 : TI := { und := TypeDesc.struct #[{ name := "ID", type := 3, offset := 0, embedded := false, tag := "", pkgPath := "", byteOffset := 0 }, { name := "Master", type := 3, offset := 1, embedded := false, tag := "", pkgPath := "", byteOffset := 8 }, { name := "Epochs", type := 23, offset := 2, embedded := false, tag := "", pkgPath := "", byteOffset := 16 }, { name := "Known", type := 24, offset := 5, embedded := false, tag := "", pkgPath := "", byteOffset := 40 }, { name := "Table", type := 27, offset := 6, embedded := false, tag := "", pkgPath := "", byteOffset := 64 }], agg := true, size := 134, bytes := 1088, zero := (Value.agg (([Value.int IntKind.i64 0, Value.int IntKind.i64 0, Value.int IntKind.i64 0, Value.int IntKind.i64 0, Value.int IntKind.i64 0, Value.slice none 0 0, Value.int IntKind.i64 0, Value.int IntKind.i64 0, Value.int IntKind.i64 0, Value.int IntKind.i64 0, Value.int IntKind.i64 0, Value.int IntKind.i64 0, Value.int IntKind.i64 0, Value.int IntKind.i64 0, Value.int IntKind.i64 0, Value.int IntKind.i64 0, Value.int IntKind.i64 0, Value.int IntKind.i64 0, Value.int IntKind.i64 0, Value.int IntKind.i64 0, Value.int IntKind.i64 0, Value.int IntKind.i64 0, Value.int IntKind.i64 0, Value.int IntKind.i64 0, Value.int IntKind.i64 0, Value.int IntKind.i64 0, Value.int IntKind.i64 0, Value.int IntKind.i64 0, Value.int IntKind.i64 0, Value.int IntKind.i64 0, Value.int IntKind.i64 0, Value.int IntKind.i64 0, Value.int IntKind.i64 0].append [Value.int IntKind.i64 0, Value.int IntKind.i64 0, Value.int IntKind.i64 0, Value.int IntKind.i64 0, Value.int IntKind.i64 0, Value.int IntKind.i64 0, Value.int IntKind.i64 0, Value.int IntKind.i64 0, Value.int IntKind.i64 0, Value.int IntKind.i64 0, Value.int IntKind.i64 0, Value.int IntKind.i64 0, Value.int IntKind.i64 0, Value.int IntKind.i64 0, Value.int IntKind.i64 0, Value.int IntKind.i64 0, Value.int IntKind.i64 0, Value.int IntKind.i64 0, Value.int IntKind.i64 0, Value.int IntKind.i64 0, Value.int IntKind.i64 0, Value.int IntKind.i64 0, Value.int IntKind.i64 0, Value.int IntKind.i64 0, Value.int IntKind.i64 0, Value.int IntKind.i64 0, Value.int IntKind.i64 0, Value.int IntKind.i64 0, Value.int IntKind.i64 0, Value.int IntKind.i64 0, Value.int IntKind.i64 0, Value.int IntKind.i64 0, Value.int IntKind.i64 0, Value.int IntKind.i64 0]).append ([Value.int IntKind.i64 0, Value.int IntKind.i64 0, Value.int IntKind.i64 0, Value.int IntKind.i64 0, Value.int IntKind.i64 0, Value.int IntKind.i64 0, Value.int IntKind.i64 0, Value.int IntKind.i64 0, Value.int IntKind.i64 0, Value.int IntKind.i64 0, Value.int IntKind.i64 0, Value.int IntKind.i64 0, Value.int IntKind.i64 0, Value.int IntKind.i64 0, Value.int IntKind.i64 0, Value.int IntKind.i64 0, Value.int IntKind.i64 0, Value.int IntKind.i64 0, Value.int IntKind.i64 0, Value.int IntKind.i64 0, Value.int IntKind.i64 0, Value.int IntKind.i64 0, Value.int IntKind.i64 0, Value.int IntKind.i64 0, Value.int IntKind.i64 0, Value.int IntKind.i64 0, Value.int IntKind.i64 0, Value.int IntKind.i64 0, Value.int IntKind.i64 0, Value.int IntKind.i64 0, Value.int IntKind.i64 0, Value.int IntKind.i64 0, Value.int IntKind.i64 0].append [Value.int IntKind.i64 0, Value.int IntKind.i64 0, Value.int IntKind.i64 0, Value.int IntKind.i64 0, Value.int IntKind.i64 0, Value.int IntKind.i64 0, Value.int IntKind.i64 0, Value.int IntKind.i64 0, Value.int IntKind.i64 0, Value.int IntKind.i64 0, Value.int IntKind.i64 0, Value.int IntKind.i64 0, Value.int IntKind.i64 0, Value.int IntKind.i64 0, Value.int IntKind.i64 0, Value.int IntKind.i64 0, Value.int IntKind.i64 0, Value.int IntKind.i64 0, Value.int IntKind.i64 0, Value.int IntKind.i64 0, Value.int IntKind.i64 0, Value.int IntKind.i64 0, Value.int IntKind.i64 0, Value.int IntKind.i64 0, Value.int IntKind.i64 0, Value.int IntKind.i64 0, Value.int IntKind.i64 0, Value.int IntKind.i64 0, Value.int IntKind.i64 0, Value.int IntKind.i64 0, Value.int IntKind.i64 0, Value.int IntKind.i64 0, Value.int IntKind.i64 0, Value.int IntKind.i64 0])).toArray), ok := true }
def ty30 : TI := { und := TypeDesc.func #[] #[4] false, agg := false, size := 1, bytes := 8, zero := Value.nilFunc, ok := true }
def ty31 : TI := { und := TypeDesc.slice 51, agg := false, size := 1, bytes := 24, zero := (Value.slice none 0 0), ok := true }
def ty32 : TI := { und := TypeDesc.struct #[{ name := "ID", type := 3, offset := 0, embedded := false, tag := "", pkgPath := "", byteOffset := 0 }, { name := "Master", type := 3, offset := 1, embedded := false, tag := "", pkgPath := "", byteOffset := 8 }, { name := "Current", type := 3, offset := 2, embedded := false, tag := "", pkgPath := "", byteOffset := 16 }, { name := "Vote", type := 3, offset := 3, embedded := false, tag := "", pkgPath := "", byteOffset := 24 }, { name := "Config", type := 3, offset := 4, embedded := false, tag := "", pkgPath := "", byteOffset := 32 }, { name := "Known", type := 31, offset := 5, embedded := false, tag := "", pkgPath := "", byteOffset := 40 }, { name := "Owner", type := 25, offset := 6, embedded := false, tag := "", pkgPath := "", byteOffset := 64 }, { name := "Epoch", type := 25, offset := 70, embedded := false, tag := "", pkgPath := "", byteOffset := 576 }], agg := true, size := 134, bytes := 1088, zero := (Value.agg (([Value.int IntKind.i64 0, Value.int IntKind.i64 0, Value.int IntKind.i64 0, Value.int IntKind.i64 0, Value.int IntKind.i64 0, Value.slice none 0 0, Value.int IntKind.i64 0, Value.int IntKind.i64 0, Value.int IntKind.i64 0, Value.int IntKind.i64 0, Value.int IntKind.i64 0, Value.int IntKind.i64 0, Value.int IntKind.i64 0, Value.int IntKind.i64 0, Value.int IntKind.i64 0, Value.int IntKind.i64 0, Value.int IntKind.i64 0, Value.int IntKind.i64 0, Value.int IntKind.i64 0, Value.int IntKind.i64 0, Value.int IntKind.i64 0, Value.int IntKind.i64 0, Value.int IntKind.i64 0, Value.int IntKind.i64 0, Value.int IntKind.i64 0, Value.int IntKind.i64 0, Value.int IntKind.i64 0, Value.int IntKind.i64 0, Value.int IntKind.i64 0, Value.int IntKind.i64 0, Value.int IntKind.i64 0, Value.int IntKind.i64 0, Value.int IntKind.i64 0].append [Value.int IntKind.i64 0, Value.int IntKind.i64 0, Value.int IntKind.i64 0, Value.int IntKind.i64 0, Value.int IntKind.i64 0, Value.int IntKind.i64 0, Value.int IntKind.i64 0, Value.int IntKind.i64 0, Value.int IntKind.i64 0, Value.int IntKind.i64 0, Value.int IntKind.i64 0, Value.int IntKind.i64 0, Value.int IntKind.i64 0, Value.int IntKind.i64 0, Value.int IntKind.i64 0, Value.int IntKind.i64 0, Value.int IntKind.i64 0, Value.int IntKind.i64 0, Value.int IntKind.i64 0, Value.int IntKind.i64 0, Value.int IntKind.i64 0, Value.int IntKind.i64 0, Value.int IntKind.i64 0, Value.int IntKind.i64 0, Value.int IntKind.i64 0, Value.int IntKind.i64 0, Value.int IntKind.i64 0, Value.int IntKind.i64 0, Value.int IntKind.i64 0, Value.int IntKind.i64 0, Value.int IntKind.i64 0, Value.int IntKind.i64 0, Value.int IntKind.i64 0, Value.int IntKind.i64 0]).append ([Value.int IntKind.i64 0, Value.int IntKind.i64 0, Value.int IntKind.i64 0, Value.int IntKind.i64 0, Value.int IntKind.i64 0, Value.int IntKind.i64 0, Value.int IntKind.i64 0, Value.int IntKind.i64 0, Value.int IntKind.i64 0, Value.int IntKind.i64 0, Value.int IntKind.i64 0, Value.int IntKind.i64 0, Value.int IntKind.i64 0, Value.int IntKind.i64 0, Value.int IntKind.i64 0, Value.int IntKind.i64 0, Value.int IntKind.i64 0, Value.int IntKind.i64 0, Value.int IntKind.i64 0, Value.int IntKind.i64 0, Value.int IntKind.i64 0, Value.int IntKind.i64 0, Value.int IntKind.i64 0, Value.int IntKind.i64 0, Value.int IntKind.i64 0, Value.int IntKind.i64 0, Value.int IntKind.i64 0, Value.int IntKind.i64 0, Value.int IntKind.i64 0, Value.int IntKind.i64 0, Value.int IntKind.i64 0, Value.int IntKind.i64 0, Value.int IntKind.i64 0].append [Value.int IntKind.i64 0, Value.int IntKind.i64 0, Value.int IntKind.i64 0, Value.int IntKind.i64 0, Value.int IntKind.i64 0, Value.int IntKind.i64 0, Value.int IntKind.i64 0, Value.int IntKind.i64 0, Value.int IntKind.i64 0, Value.int IntKind.i64 0, Value.int IntKind.i64 0, Value.int IntKind.i64 0, Value.int IntKind.i64 0, Value.int IntKind.i64 0, Value.int IntKind.i64 0, Value.int IntKind.i64 0, Value.int IntKind.i64 0, Value.int IntKind.i64 0, Value.int IntKind.i64 0, Value.int IntKind.i64 0, Value.int IntKind.i64 0, Value.int IntKind.i64 0, Value.int IntKind.i64 0, Value.int IntKind.i64 0, Value.int IntKind.i64 0, Value.int IntKind.i64 0, Value.int IntKind.i64 0, Value.int IntKind.i64 0, Value.int IntKind.i64 0, Value.int IntKind.i64 0, Value.int IntKind.i64 0, Value.int IntKind.i64 0, Value.int IntKind.i64 0, Value.int IntKind.i64 0])).toArray), ok := true }
def ty33 : TI := { und := TypeDesc.struct #[{ name := "ID", type := 3, offset := 0, embedded := false, tag := "", pkgPath := "", byteOffset := 0 }, { name := "Master", type := 3, offset := 1, embedded := false, tag := "", pkgPath := "", byteOffset := 8 }, { name := "Current", type := 3, offset := 2, embedded := false, tag := "", pkgPath := "", byteOffset := 16 }, { name := "Vote", type := 3, offset := 3, embedded := false, tag := "", pkgPath := "", byteOffset := 24 }, { name := "Config", type := 3, offset := 4, embedded := false, tag := "", pkgPath := "", byteOffset := 32 }, { name := "Known", type := 31, offset := 5, embedded := false, tag := "", pkgPath := "", byteOffset := 40 }, { name := "Owner", type := 25, offset := 6, embedded := false, tag := "", pkgPath := "", byteOffset := 64 }, { name := "Epoch", type := 25, offset := 70, embedded := false, tag := "", pkgPath := "", byteOffset := 576 }], agg := true, size := 134, bytes := 1088, zero := (Value.agg (([Value.int IntKind.i64 0, Value.int IntKind.i64 0, Value.int IntKind.i64 0, Value.int IntKind.i64 0, Value.int IntKind.i64 0, Value.slice none 0 0, Value.int IntKind.i64 0, Value.int IntKind.i64 0, Value.int IntKind.i64 0, Value.int IntKind.i64 0, Value.int IntKind.i64 0, Value.int IntKind.i64 0, Value.int IntKind.i64 0, Value.int IntKind.i64 0, Value.int IntKind.i64 0, Value.int IntKind.i64 0, Value.int IntKind.i64 0, Value.int IntKind.i64 0, Value.int IntKind.i64 0, Value.int IntKind.i64 0, Value.int IntKind.i64 0, Value.int IntKind.i64 0, Value.int IntKind.i64 0, Value.int IntKind.i64 0, Value.int IntKind.i64 0, Value.int IntKind.i64 0, Value.int IntKind.i64 0, Value.int IntKind.i64 0, Value.int IntKind.i64 0, Value.int IntKind.i64 0, Value.int IntKind.i64 0, Value.int IntKind.i64 0, Value.int IntKind.i64 0].append [Value.int IntKind.i64 0, Value.int IntKind.i64 0, Value.int IntKind.i64 0, Value.int IntKind.i64 0, Value.int IntKind.i64 0, Value.int IntKind.i64 0, Value.int IntKind.i64 0, Value.int IntKind.i64 0, Value.int IntKind.i64 0, Value.int IntKind.i64 0, Value.int IntKind.i64 0, Value.int IntKind.i64 0, Value.int IntKind.i64 0, Value.int IntKind.i64 0, Value.int IntKind.i64 0, Value.int IntKind.i64 0, Value.int IntKind.i64 0, Value.int IntKind.i64 0, Value.int IntKind.i64 0, Value.int IntKind.i64 0, Value.int IntKind.i64 0, Value.int IntKind.i64 0, Value.int IntKind.i64 0, Value.int IntKind.i64 0, Value.int IntKind.i64 0, Value.int IntKind.i64 0, Value.int IntKind.i64 0, Value.int IntKind.i64 0, Value.int IntKind.i64 0, Value.int IntKind.i64 0, Value.int IntKind.i64 0, Value.int IntKind.i64 0, Value.int IntKind.i64 0, Value.int IntKind.i64 0]).append ([Value.int IntKind.i64 0, Value.int IntKind.i64 0, Value.int IntKind.i64 0, Value.int IntKind.i64 0, Value.int IntKind.i64 0, Value.int IntKind.i64 0, Value.int IntKind.i64 0, Value.int IntKind.i64 0, Value.int IntKind.i64 0, Value.int IntKind.i64 0, Value.int IntKind.i64 0, Value.int IntKind.i64 0, Value.int IntKind.i64 0, Value.int IntKind.i64 0, Value.int IntKind.i64 0, Value.int IntKind.i64 0, Value.int IntKind.i64 0, Value.int IntKind.i64 0, Value.int IntKind.i64 0, Value.int IntKind.i64 0, Value.int IntKind.i64 0, Value.int IntKind.i64 0, Value.int IntKind.i64 0, Value.int IntKind.i64 0, Value.int IntKind.i64 0, Value.int IntKind.i64 0, Value.int IntKind.i64 0, Value.int IntKind.i64 0, Value.int IntKind.i64 0, Value.int IntKind.i64 0, Value.int IntKind.i64 0, Value.int IntKind.i64 0, Value.int IntKind.i64 0].append [Value.int IntKind.i64 0, Value.int IntKind.i64 0, Value.int IntKind.i64 0, Value.int IntKind.i64 0, Value.int IntKind.i64 0, Value.int IntKind.i64 0, Value.int IntKind.i64 0, Value.int IntKind.i64 0, Value.int IntKind.i64 0, Value.int IntKind.i64 0, Value.int IntKind.i64 0, Value.int IntKind.i64 0, Value.int IntKind.i64 0, Value.int IntKind.i64 0, Value.int IntKind.i64 0, Value.int IntKind.i64 0, Value.int IntKind.i64 0, Value.int IntKind.i64 0, Value.int IntKind.i64 0, Value.int IntKind.i64 0, Value.int IntKind.i64 0, Value.int IntKind.i64 0, Value.int IntKind.i64 0, Value.int IntKind.i64 0, Value.int IntKind.i64 0, Value.int IntKind.i64 0, Value.int IntKind.i64 0, Value.int IntKind.i64 0, Value.int IntKind.i64 0, Value.int IntKind.i64 0, Value.int IntKind.i64 0, Value.int IntKind.i64 0, Value.int IntKind.i64 0, Value.int IntKind.i64 0])).toArray), ok := true }
def ty34 : TI := { und := TypeDesc.func #[29] #[33] false, agg := false, size := 1, bytes := 8, zero := Value.nilFunc, ok := true }
def ty35 : TI := { und := TypeDesc.int IntKind.i64, agg := false, size := 1, bytes := 8, zero := (Value.int IntKind.i64 0), ok := true }
def ty36 : TI := { und := TypeDesc.tuple #[9, 35], agg := false, size := 1, bytes := 0, zero := (Value.tuple #[Value.string { data := #[] }, Value.int IntKind.i64 0]), ok := true }
def ty37 : TI := { und := TypeDesc.func #[29] #[9, 35] false, agg := false, size := 1, bytes := 8, zero := Value.nilFunc, ok := true }
def ty38 : TI := { und := TypeDesc.tuple #[29, 35], agg := false, size := 1, bytes := 0, zero := (Value.tuple #[Value.agg (([Value.int IntKind.i64 0, Value.int IntKind.i64 0, Value.int IntKind.i64 0, Value.int IntKind.i64 0, Value.int IntKind.i64 0, Value.slice none 0 0, Value.int IntKind.i64 0, Value.int IntKind.i64 0, Value.int IntKind.i64 0, Value.int IntKind.i64 0, Value.int IntKind.i64 0, Value.int IntKind.i64 0, Value.int IntKind.i64 0, Value.int IntKind.i64 0, Value.int IntKind.i64 0, Value.int IntKind.i64 0, Value.int IntKind.i64 0, Value.int IntKind.i64 0, Value.int IntKind.i64 0, Value.int IntKind.i64 0, Value.int IntKind.i64 0, Value.int IntKind.i64 0, Value.int IntKind.i64 0, Value.int IntKind.i64 0, Value.int IntKind.i64 0, Value.int IntKind.i64 0, Value.int IntKind.i64 0, Value.int IntKind.i64 0, Value.int IntKind.i64 0, Value.int IntKind.i64 0, Value.int IntKind.i64 0, Value.int IntKind.i64 0, Value.int IntKind.i64 0].append [Value.int IntKind.i64 0, Value.int IntKind.i64 0, Value.int IntKind.i64 0, Value.int IntKind.i64 0, Value.int IntKind.i64 0, Value.int IntKind.i64 0, Value.int IntKind.i64 0, Value.int IntKind.i64 0, Value.int IntKind.i64 0, Value.int IntKind.i64 0, Value.int IntKind.i64 0, Value.int IntKind.i64 0, Value.int IntKind.i64 0, Value.int IntKind.i64 0, Value.int IntKind.i64 0, Value.int IntKind.i64 0, Value.int IntKind.i64 0, Value.int IntKind.i64 0, Value.int IntKind.i64 0, Value.int IntKind.i64 0, Value.int IntKind.i64 0, Value.int IntKind.i64 0, Value.int IntKind.i64 0, Value.int IntKind.i64 0, Value.int IntKind.i64 0, Value.int IntKind.i64 0, Value.int IntKind.i64 0, Value.int IntKind.i64 0, Value.int IntKind.i64 0, Value.int IntKind.i64 0, Value.int IntKind.i64 0, Value.int IntKind.i64 0, Value.int IntKind.i64 0, Value.int IntKind.i64 0]).append ([Value.int IntKind.i64 0, Value.int IntKind.i64 0, Value.int IntKind.i64 0, Value.int IntKind.i64 0, Value.int IntKind.i64 0, Value.int IntKind.i64 0, Value.int IntKind.i64 0, Value.int IntKind.i64 0, Value.int IntKind.i64 0, Value.int IntKind.i64 0, Value.int IntKind.i64 0, Value.int IntKind.i64 0, Value.int IntKind.i64 0, Value.int IntKind.i64 0, Value.int IntKind.i64 0, Value.int IntKind.i64 0, Value.int IntKind.i64 0, Value.int IntKind.i64 0, Value.int IntKind.i64 0, Value.int IntKind.i64 0, Value.int IntKind.i64 0, Value.int IntKind.i64 0, Value.int IntKind.i64 0, Value.int IntKind.i64 0, Value.int IntKind.i64 0, Value.int IntKind.i64 0, Value.int IntKind.i64 0, Value.int IntKind.i64 0, Value.int IntKind.i64 0, Value.int IntKind.i64 0, Value.int IntKind.i64 0, Value.int IntKind.i64 0, Value.int IntKind.i64 0].append [Value.int IntKind.i64 0, Value.int IntKind.i64 0, Value.int IntKind.i64 0, Value.int IntKind.i64 0, Value.int IntKind.i64 0, Value.int IntKind.i64 0, Value.int IntKind.i64 0, Value.int IntKind.i64 0, Value.int IntKind.i64 0, Value.int IntKind.i64 0, Value.int IntKind.i64 0, Value.int IntKind.i64 0, Value.int IntKind.i64 0, Value.int IntKind.i64 0, Value.int IntKind.i64 0, Value.int IntKind.i64 0, Value.int IntKind.i64 0, Value.int IntKind.i64 0, Value.int IntKind.i64 0, Value.int IntKind.i64 0, Value.int IntKind.i64 0, Value.int IntKind.i64 0, Value.int IntKind.i64 0, Value.int IntKind.i64 0, Value.int IntKind.i64 0, Value.int IntKind.i64 0, Value.int IntKind.i64 0, Value.int IntKind.i64 0, Value.int IntKind.i64 0, Value.int IntKind.i64 0, Value.int IntKind.i64 0, Value.int IntKind.i64 0, Value.int IntKind.i64 0, Value.int IntKind.i64 0])).toArray, Value.int IntKind.i64 0]), ok := true }
def ty39 : TI := { und := TypeDesc.func #[9] #[29, 35] false, agg := false, size := 1, bytes := 8, zero := Value.nilFunc, ok := true }
def ty40 : TI := { und := TypeDesc.func #[] #[9] false, agg := false, size := 1, bytes := 8, zero := Value.nilFunc, ok := true }
def ty41 : TI := { und := TypeDesc.func #[29, 29] #[4] false, agg := false, size := 1, bytes := 8, zero := Value.nilFunc, ok := true }
def ty42 : TI := { und := TypeDesc.func #[29] #[4] false, agg := false, size := 1, bytes := 8, zero := Value.nilFunc, ok := true }
def ty43 : TI := { und := TypeDesc.tuple #[33, 4], agg := false, size := 1, bytes := 0, zero := (Value.tuple #[Value.agg (([Value.int IntKind.i64 0, Value.int IntKind.i64 0, Value.int IntKind.i64 0, Value.int IntKind.i64 0, Value.int IntKind.i64 0, Value.slice none 0 0, Value.int IntKind.i64 0, Value.int IntKind.i64 0, Value.int IntKind.i64 0, Value.int IntKind.i64 0, Value.int IntKind.i64 0, Value.int IntKind.i64 0, Value.int IntKind.i64 0, Value.int IntKind.i64 0, Value.int IntKind.i64 0, Value.int IntKind.i64 0, Value.int IntKind.i64 0, Value.int IntKind.i64 0, Value.int IntKind.i64 0, Value.int IntKind.i64 0, Value.int IntKind.i64 0, Value.int IntKind.i64 0, Value.int IntKind.i64 0, Value.int IntKind.i64 0, Value.int IntKind.i64 0, Value.int IntKind.i64 0, Value.int IntKind.i64 0, Value.int IntKind.i64 0, Value.int IntKind.i64 0, Value.int IntKind.i64 0, Value.int IntKind.i64 0, Value.int IntKind.i64 0, Value.int IntKind.i64 0].append [Value.int IntKind.i64 0, Value.int IntKind.i64 0, Value.int IntKind.i64 0, Value.int IntKind.i64 0, Value.int IntKind.i64 0, Value.int IntKind.i64 0, Value.int IntKind.i64 0, Value.int IntKind.i64 0, Value.int IntKind.i64 0, Value.int IntKind.i64 0, Value.int IntKind.i64 0, Value.int IntKind.i64 0, Value.int IntKind.i64 0, Value.int IntKind.i64 0, Value.int IntKind.i64 0, Value.int IntKind.i64 0, Value.int IntKind.i64 0, Value.int IntKind.i64 0, Value.int IntKind.i64 0, Value.int IntKind.i64 0, Value.int IntKind.i64 0, Value.int IntKind.i64 0, Value.int IntKind.i64 0, Value.int IntKind.i64 0, Value.int IntKind.i64 0, Value.int IntKind.i64 0, Value.int IntKind.i64 0, Value.int IntKind.i64 0, Value.int IntKind.i64 0, Value.int IntKind.i64 0, Value.int IntKind.i64 0, Value.int IntKind.i64 0, Value.int IntKind.i64 0, Value.int IntKind.i64 0]).append ([Value.int IntKind.i64 0, Value.int IntKind.i64 0, Value.int IntKind.i64 0, Value.int IntKind.i64 0, Value.int IntKind.i64 0, Value.int IntKind.i64 0, Value.int IntKind.i64 0, Value.int IntKind.i64 0, Value.int IntKind.i64 0, Value.int IntKind.i64 0, Value.int IntKind.i64 0, Value.int IntKind.i64 0, Value.int IntKind.i64 0, Value.int IntKind.i64 0, Value.int IntKind.i64 0, Value.int IntKind.i64 0, Value.int IntKind.i64 0, Value.int IntKind.i64 0, Value.int IntKind.i64 0, Value.int IntKind.i64 0, Value.int IntKind.i64 0, Value.int IntKind.i64 0, Value.int IntKind.i64 0, Value.int IntKind.i64 0, Value.int IntKind.i64 0, Value.int IntKind.i64 0, Value.int IntKind.i64 0, Value.int IntKind.i64 0, Value.int IntKind.i64 0, Value.int IntKind.i64 0, Value.int IntKind.i64 0, Value.int IntKind.i64 0, Value.int IntKind.i64 0].append [Value.int IntKind.i64 0, Value.int IntKind.i64 0, Value.int IntKind.i64 0, Value.int IntKind.i64 0, Value.int IntKind.i64 0, Value.int IntKind.i64 0, Value.int IntKind.i64 0, Value.int IntKind.i64 0, Value.int IntKind.i64 0, Value.int IntKind.i64 0, Value.int IntKind.i64 0, Value.int IntKind.i64 0, Value.int IntKind.i64 0, Value.int IntKind.i64 0, Value.int IntKind.i64 0, Value.int IntKind.i64 0, Value.int IntKind.i64 0, Value.int IntKind.i64 0, Value.int IntKind.i64 0, Value.int IntKind.i64 0, Value.int IntKind.i64 0, Value.int IntKind.i64 0, Value.int IntKind.i64 0, Value.int IntKind.i64 0, Value.int IntKind.i64 0, Value.int IntKind.i64 0, Value.int IntKind.i64 0, Value.int IntKind.i64 0, Value.int IntKind.i64 0, Value.int IntKind.i64 0, Value.int IntKind.i64 0, Value.int IntKind.i64 0, Value.int IntKind.i64 0, Value.int IntKind.i64 0])).toArray, Value.bool false]), ok := true }
def ty44 : TI := { und := TypeDesc.func #[9] #[33, 4] false, agg := false, size := 1, bytes := 8, zero := Value.nilFunc, ok := true }
def ty45 : TI := { und := TypeDesc.func #[9] #[4] false, agg := false, size := 1, bytes := 8, zero := Value.nilFunc, ok := true }
def ty46 : TI := { und := TypeDesc.func #[29, 3] #[4] false, agg := false, size := 1, bytes := 8, zero := Value.nilFunc, ok := true }
def ty47 : TI := { und := TypeDesc.slice 9, agg := false, size := 1, bytes := 24, zero := (Value.slice none 0 0), ok := true }
def ty48 : TI := { und := TypeDesc.func #[] #[29] false, agg := false, size := 1, bytes := 8, zero := Value.nilFunc, ok := true }
def ty49 : TI := { und := TypeDesc.struct #[{ name := "ID", type := 3, offset := 0, embedded := false, tag := "", pkgPath := "", byteOffset := 0 }, { name := "Master", type := 3, offset := 1, embedded := false, tag := "", pkgPath := "", byteOffset := 8 }, { name := "Config", type := 3, offset := 2, embedded := false, tag := "", pkgPath := "", byteOffset := 16 }], agg := true, size := 3, bytes := 24, zero := (Value.agg #[Value.int IntKind.i64 0, Value.int IntKind.i64 0, Value.int IntKind.i64 0]), ok := true }
def ty50 : TI := { und := TypeDesc.struct #[{ name := "ID", type := 3, offset := 0, embedded := false, tag := "", pkgPath := "", byteOffset := 0 }, { name := "Master", type := 3, offset := 1, embedded := false, tag := "", pkgPath := "", byteOffset := 8 }, { name := "Config", type := 3, offset := 2, embedded := false, tag := "", pkgPath := "", byteOffset := 16 }], agg := true, size := 3, bytes := 24, zero := (Value.agg #[Value.int IntKind.i64 0, Value.int IntKind.i64 0, Value.int IntKind.i64 0]), ok := true }
def ty51 : TI := { und := TypeDesc.struct #[{ name := "ID", type := 3, offset := 0, embedded := false, tag := "", pkgPath := "", byteOffset := 0 }, { name := "Master", type := 3, offset := 1, embedded := false, tag := "", pkgPath := "", byteOffset := 8 }, { name := "Config", type := 3, offset := 2, embedded := false, tag := "", pkgPath := "", byteOffset := 16 }], agg := true, size := 3, bytes := 24, zero := (Value.agg #[Value.int IntKind.i64 0, Value.int IntKind.i64 0, Value.int IntKind.i64 0]), ok := true }
def ty52 : TI := { und := TypeDesc.pointer 55, agg := false, size := 1, bytes := 8, zero := (Value.pointer none), ok := true }
def ty53 : TI := { und := TypeDesc.slice 5, agg := false, size := 1, bytes := 24, zero := (Value.slice none 0 0), ok := true }
def ty54 : TI := { und := TypeDesc.struct #[{ name := "addr", type := 52, offset := 0, embedded := false, tag := "", pkgPath := "strings", byteOffset := 0 }, { name := "buf", type := 53, offset := 1, embedded := false, tag := "", pkgPath := "strings", byteOffset := 8 }], agg := true, size := 2, bytes := 32, zero := (Value.agg #[Value.pointer none, Value.slice none 0 0]), ok := true }
def ty55 : TI := { und := TypeDesc.struct #[{ name := "addr", type := 52, offset := 0, embedded := false, tag := "", pkgPath := "strings", byteOffset := 0 }, { name := "buf", type := 53, offset := 1, embedded := false, tag := "", pkgPath := "strings", byteOffset := 8 }], agg := true, size := 2, bytes := 32, zero := (Value.agg #[Value.pointer none, Value.slice none 0 0]), ok := true }
def ty56 : TI := { und := TypeDesc.func #[52, 78] #[] true, agg := false, size := 1, bytes := 8, zero := Value.nilFunc, ok := true }
def ty57 : TI := { und := TypeDesc.slice 3, agg := false, size := 1, bytes := 24, zero := (Value.slice none 0 0), ok := true }
def ty58 : TI := { und := TypeDesc.func #[] #[57] false, agg := false, size := 1, bytes := 8, zero := Value.nilFunc, ok := true }
def ty59 : TI := { und := TypeDesc.map 3 61, agg := false, size := 1, bytes := 8, zero := (Value.map none), ok := true }
def ty60 : TI := { und := TypeDesc.int IntKind.u64, agg := false, size := 1, bytes := 8, zero := (Value.int IntKind.u64 0), ok := true }
def ty61 : TI := { und := TypeDesc.int IntKind.u64, agg := false, size := 1, bytes := 8, zero := (Value.int IntKind.u64 0), ok := true }
def ty62 : TI := { und := TypeDesc.func #[3] #[61] false, agg := false, size := 1, bytes := 8, zero := Value.nilFunc, ok := true }
def ty63 : TI := { und := TypeDesc.func #[57] #[] false, agg := false, size := 1, bytes := 8, zero := Value.nilFunc, ok := true }
def ty64 : TI := { und := TypeDesc.func #[3] #[4] false, agg := false, size := 1, bytes := 8, zero := Value.nilFunc, ok := true }
def ty65 : TI := { und := TypeDesc.func #[3, 3] #[4] false, agg := false, size := 1, bytes := 8, zero := Value.nilFunc, ok := true }
def ty66 : TI := { und := TypeDesc.func #[24, 67] #[4] false, agg := false, size := 1, bytes := 8, zero := Value.nilFunc, ok := true }
def ty67 : TI := { und := TypeDesc.func #[50] #[4] false, agg := false, size := 1, bytes := 8, zero := Value.nilFunc, ok := true }
def ty68 : TI := { und := TypeDesc.func #[57, 64] #[4] false, agg := false, size := 1, bytes := 8, zero := Value.nilFunc, ok := true }
def ty69 : TI := { und := TypeDesc.func #[9, 9] #[47] false, agg := false, size := 1, bytes := 8, zero := Value.nilFunc, ok := true }
def ty70 : TI := { und := TypeDesc.func #[9, 9] #[9] false, agg := false, size := 1, bytes := 8, zero := Value.nilFunc, ok := true }
def ty71 : TI := { und := TypeDesc.func #[3, 9] #[4] false, agg := false, size := 1, bytes := 8, zero := Value.nilFunc, ok := true }
def ty72 : TI := { und := TypeDesc.func #[3] #[9] false, agg := false, size := 1, bytes := 8, zero := Value.nilFunc, ok := true }
def ty73 : TI := { und := TypeDesc.tuple #[3, 4], agg := false, size := 1, bytes := 0, zero := (Value.tuple #[Value.int IntKind.i64 0, Value.bool false]), ok := true }
def ty74 : TI := { und := TypeDesc.func #[25, 25, 3, 3] #[3, 4] false, agg := false, size := 1, bytes := 8, zero := Value.nilFunc, ok := true }
def ty75 : TI := { und := TypeDesc.array 64 4, agg := true, size := 64, bytes := 64, zero := (Value.agg #[Value.bool false, Value.bool false, Value.bool false, Value.bool false, Value.bool false, Value.bool false, Value.bool false, Value.bool false, Value.bool false, Value.bool false, Value.bool false, Value.bool false, Value.bool false, Value.bool false, Value.bool false, Value.bool false, Value.bool false, Value.bool false, Value.bool false, Value.bool false, Value.bool false, Value.bool false, Value.bool false, Value.bool false, Value.bool false, Value.bool false, Value.bool false, Value.bool false, Value.bool false, Value.bool false, Value.bool false, Value.bool false, Value.bool false, Value.bool false, Value.bool false, Value.bool false, Value.bool false, Value.bool false, Value.bool false, Value.bool false, Value.bool false, Value.bool false, Value.bool false, Value.bool false, Value.bool false, Value.bool false, Value.bool false, Value.bool false, Value.bool false, Value.bool false, Value.bool false, Value.bool false, Value.bool false, Value.bool false, Value.bool false, Value.bool false, Value.bool false, Value.bool false, Value.bool false, Value.bool false, Value.bool false, Value.bool false, Value.bool false, Value.bool false]), ok := true }
def ty76 : TI := { und := TypeDesc.func #[75] #[9] false, agg := false, size := 1, bytes := 8, zero := Value.nilFunc, ok := true }
def ty77 : TI := { und := TypeDesc.func #[9, 4] #[4] false, agg := false, size := 1, bytes := 8, zero := Value.nilFunc, ok := true }
def ty78 : TI := { und := TypeDesc.slice 20, agg := false, size := 1, bytes := 24, zero := (Value.slice none 0 0), ok := true }
def ty79 : TI := { und := TypeDesc.interface #[("Error", 40)], agg := false, size := 1, bytes := 16, zero := Value.nilIface, ok := true }
def ty80 : TI := { und := TypeDesc.interface #[("Error", 40)], agg := false, size := 1, bytes := 16, zero := Value.nilIface, ok := true }
def ty81 : TI := { und := TypeDesc.func #[5] #[80] false, agg := false, size := 1, bytes := 8, zero := Value.nilFunc, ok := true }
def ty82 : TI := { und := TypeDesc.tuple #[3, 80], agg := false, size := 1, bytes := 0, zero := (Value.tuple #[Value.int IntKind.i64 0, Value.nilIface]), ok := true }
def ty83 : TI := { und := TypeDesc.func #[9] #[3, 80] false, agg := false, size := 1, bytes := 8, zero := Value.nilFunc, ok := true }
def ty84 : TI := { und := TypeDesc.func #[57] #[57] false, agg := false, size := 1, bytes := 8, zero := Value.nilFunc, ok := true }
def ty85 : TI := { und := TypeDesc.func #[57, 64] #[57] false, agg := false, size := 1, bytes := 8, zero := Value.nilFunc, ok := true }
def ty86 : TI := { und := TypeDesc.func #[60] #[3] false, agg := false, size := 1, bytes := 8, zero := Value.nilFunc, ok := true }
def ty87 : TI := { und := TypeDesc.func #[57, 3, 3, 3] #[] false, agg := false, size := 1, bytes := 8, zero := Value.nilFunc, ok := true }
def ty88 : TI := { und := TypeDesc.func #[89] #[3] false, agg := false, size := 1, bytes := 8, zero := Value.nilFunc, ok := true }
def ty89 : TI := { und := TypeDesc.int IntKind.u64, agg := false, size := 1, bytes := 8, zero := (Value.int IntKind.u64 0), ok := true }
def ty90 : TI := { und := TypeDesc.func #[47, 9] #[9] false, agg := false, size := 1, bytes := 8, zero := Value.nilFunc, ok := true }
def ty91 : TI := { und := TypeDesc.pointer 5, agg := false, size := 1, bytes := 8, zero := (Value.pointer none), ok := true }
def ty92 : TI := { und := TypeDesc.func #[24, 67] #[3] false, agg := false, size := 1, bytes := 8, zero := Value.nilFunc, ok := true }
def ty93 : TI := { und := TypeDesc.func #[57, 64] #[3] false, agg := false, size := 1, bytes := 8, zero := Value.nilFunc, ok := true }
def ty94 : TI := { und := TypeDesc.func #[9, 9, 3, 3] #[47] false, agg := false, size := 1, bytes := 8, zero := Value.nilFunc, ok := true }
def ty95 : TI := { und := TypeDesc.pointer 29, agg := false, size := 1, bytes := 8, zero := (Value.pointer none), ok := true }
def ty96 : TI := { und := TypeDesc.tuple #[9, 9, 4], agg := false, size := 1, bytes := 0, zero := (Value.tuple #[Value.string { data := #[] }, Value.string { data := #[] }, Value.bool false]), ok := true }
def ty97 : TI := { und := TypeDesc.func #[9, 9] #[9, 9, 4] false, agg := false, size := 1, bytes := 8, zero := Value.nilFunc, ok := true }
def ty98 : TI := { und := TypeDesc.tuple #[57, 4], agg := false, size := 1, bytes := 0, zero := (Value.tuple #[Value.slice none 0 0, Value.bool false]), ok := true }
def ty99 : TI := { und := TypeDesc.func #[9, 47] #[57, 4] true, agg := false, size := 1, bytes := 8, zero := Value.nilFunc, ok := true }
def ty100 : TI := { und := TypeDesc.tuple #[61, 35], agg := false, size := 1, bytes := 0, zero := (Value.tuple #[Value.int IntKind.u64 0, Value.int IntKind.i64 0]), ok := true }
def ty101 : TI := { und := TypeDesc.func #[9] #[61, 35] false, agg := false, size := 1, bytes := 8, zero := Value.nilFunc, ok := true }
def ty102 : TI := { und := TypeDesc.pointer 33, agg := false, size := 1, bytes := 8, zero := (Value.pointer none), ok := true }
def ty103 : TI := { und := TypeDesc.tuple #[57, 3, 4], agg := false, size := 1, bytes := 0, zero := (Value.tuple #[Value.slice none 0 0, Value.int IntKind.i64 0, Value.bool false]), ok := true }
def ty104 : TI := { und := TypeDesc.func #[9, 47] #[57, 3, 4] false, agg := false, size := 1, bytes := 8, zero := Value.nilFunc, ok := true }
def ty105 : TI := { und := TypeDesc.tuple #[75, 4], agg := false, size := 1, bytes := 0, zero := (Value.tuple #[Value.agg #[Value.bool false, Value.bool false, Value.bool false, Value.bool false, Value.bool false, Value.bool false, Value.bool false, Value.bool false, Value.bool false, Value.bool false, Value.bool false, Value.bool false, Value.bool false, Value.bool false, Value.bool false, Value.bool false, Value.bool false, Value.bool false, Value.bool false, Value.bool false, Value.bool false, Value.bool false, Value.bool false, Value.bool false, Value.bool false, Value.bool false, Value.bool false, Value.bool false, Value.bool false, Value.bool false, Value.bool false, Value.bool false, Value.bool false, Value.bool false, Value.bool false, Value.bool false, Value.bool false, Value.bool false, Value.bool false, Value.bool false, Value.bool false, Value.bool false, Value.bool false, Value.bool false, Value.bool false, Value.bool false, Value.bool false, Value.bool false, Value.bool false, Value.bool false, Value.bool false, Value.bool false, Value.bool false, Value.bool false, Value.bool false, Value.bool false, Value.bool false, Value.bool false, Value.bool false, Value.bool false, Value.bool false, Value.bool false, Value.bool false, Value.bool false], Value.bool false]), ok := true }
def ty106 : TI := { und := TypeDesc.func #[9] #[75, 4] false, agg := false, size := 1, bytes := 8, zero := Value.nilFunc, ok := true }
def ty107 : TI := { und := TypeDesc.array 64 5, agg := true, size := 64, bytes := 64, zero := (Value.agg #[Value.int IntKind.u8 0, Value.int IntKind.u8 0, Value.int IntKind.u8 0, Value.int IntKind.u8 0, Value.int IntKind.u8 0, Value.int IntKind.u8 0, Value.int IntKind.u8 0, Value.int IntKind.u8 0, Value.int IntKind.u8 0, Value.int IntKind.u8 0, Value.int IntKind.u8 0, Value.int IntKind.u8 0, Value.int IntKind.u8 0, Value.int IntKind.u8 0, Value.int IntKind.u8 0, Value.int IntKind.u8 0, Value.int IntKind.u8 0, Value.int IntKind.u8 0, Value.int IntKind.u8 0, Value.int IntKind.u8 0, Value.int IntKind.u8 0, Value.int IntKind.u8 0, Value.int IntKind.u8 0, Value.int IntKind.u8 0, Value.int IntKind.u8 0, Value.int IntKind.u8 0, Value.int IntKind.u8 0, Value.int IntKind.u8 0, Value.int IntKind.u8 0, Value.int IntKind.u8 0, Value.int IntKind.u8 0, Value.int IntKind.u8 0, Value.int IntKind.u8 0, Value.int IntKind.u8 0, Value.int IntKind.u8 0, Value.int IntKind.u8 0, Value.int IntKind.u8 0, Value.int IntKind.u8 0, Value.int IntKind.u8 0, Value.int IntKind.u8 0, Value.int IntKind.u8 0, Value.int IntKind.u8 0, Value.int IntKind.u8 0, Value.int IntKind.u8 0, Value.int IntKind.u8 0, Value.int IntKind.u8 0, Value.int IntKind.u8 0, Value.int IntKind.u8 0, Value.int IntKind.u8 0, Value.int IntKind.u8 0, Value.int IntKind.u8 0, Value.int IntKind.u8 0, Value.int IntKind.u8 0, Value.int IntKind.u8 0, Value.int IntKind.u8 0, Value.int IntKind.u8 0, Value.int IntKind.u8 0, Value.int IntKind.u8 0, Value.int IntKind.u8 0, Value.int IntKind.u8 0, Value.int IntKind.u8 0, Value.int IntKind.u8 0, Value.int IntKind.u8 0, Value.int IntKind.u8 0]), ok := true }
def ty108 : TI := { und := TypeDesc.func #[57, 3, 3] #[] false, agg := false, size := 1, bytes := 8, zero := Value.nilFunc, ok := true }
def ty109 : TI := { und := TypeDesc.int IntKind.i64, agg := false, size := 1, bytes := 8, zero := (Value.int IntKind.i64 0), ok := true }
def ty110 : TI := { und := TypeDesc.tuple #[3, 109], agg := false, size := 1, bytes := 0, zero := (Value.tuple #[Value.int IntKind.i64 0, Value.int IntKind.i64 0]), ok := true }
def ty111 : TI := { und := TypeDesc.func #[57, 3, 3] #[3, 109] false, agg := false, size := 1, bytes := 8, zero := Value.nilFunc, ok := true }
def ty112 : TI := { und := TypeDesc.func #[57, 3, 3] #[4] false, agg := false, size := 1, bytes := 8, zero := Value.nilFunc, ok := true }
def ty113 : TI := { und := TypeDesc.func #[57, 3, 3, 3] #[3] false, agg := false, size := 1, bytes := 8, zero := Value.nilFunc, ok := true }
def ty114 : TI := { und := TypeDesc.func #[57, 3, 3, 3] #[3, 4] false, agg := false, size := 1, bytes := 8, zero := Value.nilFunc, ok := true }
def ty115 : TI := { und := TypeDesc.func #[116] #[3] false, agg := false, size := 1, bytes := 8, zero := Value.nilFunc, ok := true }
def ty116 : TI := { und := TypeDesc.int IntKind.u32, agg := false, size := 1, bytes := 4, zero := (Value.int IntKind.u32 0), ok := true }
def ty117 : TI := { und := TypeDesc.func #[3] #[] false, agg := false, size := 1, bytes := 8, zero := Value.nilFunc, ok := true }
def ty118 : TI := { und := TypeDesc.func #[9, 3] #[47] false, agg := false, size := 1, bytes := 8, zero := Value.nilFunc, ok := true }
def ty119 : TI := { und := TypeDesc.func #[9, 9] #[3] false, agg := false, size := 1, bytes := 8, zero := Value.nilFunc, ok := true }
def ty120 : TI := { und := TypeDesc.func #[9, 9] #[4] false, agg := false, size := 1, bytes := 8, zero := Value.nilFunc, ok := true }
def ty121 : TI := { und := TypeDesc.func #[45] #[] false, agg := false, size := 1, bytes := 8, zero := Value.nilFunc, ok := true }
def ty122 : TI := { und := TypeDesc.func #[45] #[] false, agg := false, size := 1, bytes := 8, zero := Value.nilFunc, ok := true }
def ty123 : TI := { und := TypeDesc.func #[9, 9] #[122] false, agg := false, size := 1, bytes := 8, zero := Value.nilFunc, ok := true }
def ty124 : TI := { und := TypeDesc.func #[9, 3, 9] #[3, 4] false, agg := false, size := 1, bytes := 8, zero := Value.nilFunc, ok := true }
def ty125 : TI := { und := TypeDesc.tuple #[3, 3, 4], agg := false, size := 1, bytes := 0, zero := (Value.tuple #[Value.int IntKind.i64 0, Value.int IntKind.i64 0, Value.bool false]), ok := true }
def ty126 : TI := { und := TypeDesc.func #[9, 3] #[3, 3, 4] false, agg := false, size := 1, bytes := 8, zero := Value.nilFunc, ok := true }
def ty127 : TI := { und := TypeDesc.tuple #[3, 3], agg := false, size := 1, bytes := 0, zero := (Value.tuple #[Value.int IntKind.i64 0, Value.int IntKind.i64 0]), ok := true }
def ty128 : TI := { und := TypeDesc.func #[9, 3] #[3, 3] false, agg := false, size := 1, bytes := 8, zero := Value.nilFunc, ok := true }
def ty129 : TI := { und := TypeDesc.unsafePointer, agg := false, size := 1, bytes := 8, zero := (Value.pointer none), ok := true }
def ty130 : TI := { und := TypeDesc.func #[129] #[129] false, agg := false, size := 1, bytes := 8, zero := Value.nilFunc, ok := true }
def ty131 : TI := { und := TypeDesc.func #[2, 3] #[9] false, agg := false, size := 1, bytes := 8, zero := Value.nilFunc, ok := true }
def ty132 : TI := { und := TypeDesc.int IntKind.u64, agg := false, size := 1, bytes := 8, zero := (Value.int IntKind.u64 0), ok := true }
def ty133 : TI := { und := TypeDesc.func #[3] #[89] false, agg := false, size := 1, bytes := 8, zero := Value.nilFunc, ok := true }
def ty134 : TI := { und := TypeDesc.func #[] #[60] false, agg := false, size := 1, bytes := 8, zero := Value.nilFunc, ok := true }
def ty135 : TI := { und := TypeDesc.func #[57, 3, 136] #[3] false, agg := false, size := 1, bytes := 8, zero := Value.nilFunc, ok := true }
def ty136 : TI := { und := TypeDesc.pointer 3, agg := false, size := 1, bytes := 8, zero := (Value.pointer none), ok := true }
def ty137 : TI := { und := TypeDesc.func #[57, 3, 3, 3, 136] #[3] false, agg := false, size := 1, bytes := 8, zero := Value.nilFunc, ok := true }
def ty138 : TI := { und := TypeDesc.func #[9] #[3] false, agg := false, size := 1, bytes := 8, zero := Value.nilFunc, ok := true }
def ty139 : TI := { und := TypeDesc.tuple #[21, 3], agg := false, size := 1, bytes := 0, zero := (Value.tuple #[Value.int IntKind.i32 0, Value.int IntKind.i64 0]), ok := true }
def ty140 : TI := { und := TypeDesc.func #[9] #[21, 3] false, agg := false, size := 1, bytes := 8, zero := Value.nilFunc, ok := true }
def ty141 : TI := { und := TypeDesc.func #[9, 5] #[3] false, agg := false, size := 1, bytes := 8, zero := Value.nilFunc, ok := true }
def ty142 : TI := { und := TypeDesc.func #[9, 9, 3, 3, 80] #[80] false, agg := false, size := 1, bytes := 8, zero := Value.nilFunc, ok := true }
def ty143 : TI := { und := TypeDesc.func #[9, 9, 3] #[122] false, agg := false, size := 1, bytes := 8, zero := Value.nilFunc, ok := true }
def ty144 : TI := { und := TypeDesc.array 24 5, agg := true, size := 24, bytes := 24, zero := (Value.agg #[Value.int IntKind.u8 0, Value.int IntKind.u8 0, Value.int IntKind.u8 0, Value.int IntKind.u8 0, Value.int IntKind.u8 0, Value.int IntKind.u8 0, Value.int IntKind.u8 0, Value.int IntKind.u8 0, Value.int IntKind.u8 0, Value.int IntKind.u8 0, Value.int IntKind.u8 0, Value.int IntKind.u8 0, Value.int IntKind.u8 0, Value.int IntKind.u8 0, Value.int IntKind.u8 0, Value.int IntKind.u8 0, Value.int IntKind.u8 0, Value.int IntKind.u8 0, Value.int IntKind.u8 0, Value.int IntKind.u8 0, Value.int IntKind.u8 0, Value.int IntKind.u8 0, Value.int IntKind.u8 0, Value.int IntKind.u8 0]), ok := true }
def ty145 : TI := { und := TypeDesc.func #[53, 60] #[] false, agg := false, size := 1, bytes := 8, zero := Value.nilFunc, ok := true }
def ty146 : TI := { und := TypeDesc.tuple #[53, 9], agg := false, size := 1, bytes := 0, zero := (Value.tuple #[Value.slice none 0 0, Value.string { data := #[] }]), ok := true }
def ty147 : TI := { und := TypeDesc.func #[53, 60, 3, 4, 4] #[53, 9] false, agg := false, size := 1, bytes := 8, zero := Value.nilFunc, ok := true }
def ty148 : TI := { und := TypeDesc.pointer 132, agg := false, size := 1, bytes := 8, zero := (Value.pointer none), ok := true }
def ty149 : TI := { und := TypeDesc.func #[57, 3, 3, 136] #[3, 3] false, agg := false, size := 1, bytes := 8, zero := Value.nilFunc, ok := true }
def ty150 : TI := { und := TypeDesc.func #[3] #[53] false, agg := false, size := 1, bytes := 8, zero := Value.nilFunc, ok := true }
def ty151 : TI := { und := TypeDesc.func #[3] #[3] false, agg := false, size := 1, bytes := 8, zero := Value.nilFunc, ok := true }
def ty152 : TI := { und := TypeDesc.int IntKind.i64, agg := false, size := 1, bytes := 8, zero := (Value.int IntKind.i64 0), ok := true }
def ty153 : TI := { und := TypeDesc.tuple #[2, 80], agg := false, size := 1, bytes := 0, zero := (Value.tuple #[Value.int IntKind.i64 0, Value.nilIface]), ok := true }
def ty154 : TI := { und := TypeDesc.func #[9, 3, 3] #[2, 80] false, agg := false, size := 1, bytes := 8, zero := Value.nilFunc, ok := true }
def ty155 : TI := { und := TypeDesc.pointer 171, agg := false, size := 1, bytes := 8, zero := (Value.pointer none), ok := true }
def ty156 : TI := { und := TypeDesc.func #[9, 9] #[155] false, agg := false, size := 1, bytes := 8, zero := Value.nilFunc, ok := true }
def ty157 : TI := { und := TypeDesc.func #[9, 9, 3] #[155] false, agg := false, size := 1, bytes := 8, zero := Value.nilFunc, ok := true }
def ty158 : TI := { und := TypeDesc.func #[4] #[3] false, agg := false, size := 1, bytes := 8, zero := Value.nilFunc, ok := true }
def ty159 : TI := { und := TypeDesc.array 20 60, agg := true, size := 20, bytes := 160, zero := (Value.agg #[Value.int IntKind.u64 0, Value.int IntKind.u64 0, Value.int IntKind.u64 0, Value.int IntKind.u64 0, Value.int IntKind.u64 0, Value.int IntKind.u64 0, Value.int IntKind.u64 0, Value.int IntKind.u64 0, Value.int IntKind.u64 0, Value.int IntKind.u64 0, Value.int IntKind.u64 0, Value.int IntKind.u64 0, Value.int IntKind.u64 0, Value.int IntKind.u64 0, Value.int IntKind.u64 0, Value.int IntKind.u64 0, Value.int IntKind.u64 0, Value.int IntKind.u64 0, Value.int IntKind.u64 0, Value.int IntKind.u64 0]), ok := true }
def ty160 : TI := { und := TypeDesc.array 65 5, agg := true, size := 65, bytes := 65, zero := (Value.agg ([Value.int IntKind.u8 0, Value.int IntKind.u8 0, Value.int IntKind.u8 0, Value.int IntKind.u8 0, Value.int IntKind.u8 0, Value.int IntKind.u8 0, Value.int IntKind.u8 0, Value.int IntKind.u8 0, Value.int IntKind.u8 0, Value.int IntKind.u8 0, Value.int IntKind.u8 0, Value.int IntKind.u8 0, Value.int IntKind.u8 0, Value.int IntKind.u8 0, Value.int IntKind.u8 0, Value.int IntKind.u8 0, Value.int IntKind.u8 0, Value.int IntKind.u8 0, Value.int IntKind.u8 0, Value.int IntKind.u8 0, Value.int IntKind.u8 0, Value.int IntKind.u8 0, Value.int IntKind.u8 0, Value.int IntKind.u8 0, Value.int IntKind.u8 0, Value.int IntKind.u8 0, Value.int IntKind.u8 0, Value.int IntKind.u8 0, Value.int IntKind.u8 0, Value.int IntKind.u8 0, Value.int IntKind.u8 0, Value.int IntKind.u8 0].append [Value.int IntKind.u8 0, Value.int IntKind.u8 0, Value.int IntKind.u8 0, Value.int IntKind.u8 0, Value.int IntKind.u8 0, Value.int IntKind.u8 0, Value.int IntKind.u8 0, Value.int IntKind.u8 0, Value.int IntKind.u8 0, Value.int IntKind.u8 0, Value.int IntKind.u8 0, Value.int IntKind.u8 0, Value.int IntKind.u8 0, Value.int IntKind.u8 0, Value.int IntKind.u8 0, Value.int IntKind.u8 0, Value.int IntKind.u8 0, Value.int IntKind.u8 0, Value.int IntKind.u8 0, Value.int IntKind.u8 0, Value.int IntKind.u8 0, Value.int IntKind.u8 0, Value.int IntKind.u8 0, Value.int IntKind.u8 0, Value.int IntKind.u8 0, Value.int IntKind.u8 0, Value.int IntKind.u8 0, Value.int IntKind.u8 0, Value.int IntKind.u8 0, Value.int IntKind.u8 0, Value.int IntKind.u8 0, Value.int IntKind.u8 0, Value.int IntKind.u8 0]).toArray), ok := true }
def ty161 : TI := badT
def ty162 : TI := { und := TypeDesc.struct #[{ name := "lo", type := 5, offset := 0, embedded := false, tag := "", pkgPath := "unicode/utf8", byteOffset := 0 }, { name := "hi", type := 5, offset := 1, embedded := false, tag := "", pkgPath := "unicode/utf8", byteOffset := 1 }], agg := true, size := 2, bytes := 2, zero := (Value.agg #[Value.int IntKind.u8 0, Value.int IntKind.u8 0]), ok := true }
def ty163 : TI := { und := TypeDesc.struct #[{ name := "lo", type := 5, offset := 0, embedded := false, tag := "", pkgPath := "unicode/utf8", byteOffset := 0 }, { name := "hi", type := 5, offset := 1, embedded := false, tag := "", pkgPath := "unicode/utf8", byteOffset := 1 }], agg := true, size := 2, bytes := 2, zero := (Value.agg #[Value.int IntKind.u8 0, Value.int IntKind.u8 0]), ok := true }
def ty164 : TI := { und := TypeDesc.array 16 163, agg := true, size := 32, bytes := 32, zero := (Value.agg #[Value.int IntKind.u8 0, Value.int IntKind.u8 0, Value.int IntKind.u8 0, Value.int IntKind.u8 0, Value.int IntKind.u8 0, Value.int IntKind.u8 0, Value.int IntKind.u8 0, Value.int IntKind.u8 0, Value.int IntKind.u8 0, Value.int IntKind.u8 0, Value.int IntKind.u8 0, Value.int IntKind.u8 0, Value.int IntKind.u8 0, Value.int IntKind.u8 0, Value.int IntKind.u8 0, Value.int IntKind.u8 0, Value.int IntKind.u8 0, Value.int IntKind.u8 0, Value.int IntKind.u8 0, Value.int IntKind.u8 0, Value.int IntKind.u8 0, Value.int IntKind.u8 0, Value.int IntKind.u8 0, Value.int IntKind.u8 0, Value.int IntKind.u8 0, Value.int IntKind.u8 0, Value.int IntKind.u8 0, Value.int IntKind.u8 0, Value.int IntKind.u8 0, Value.int IntKind.u8 0, Value.int IntKind.u8 0, Value.int IntKind.u8 0]), ok := true }
def ty165 : TI := { und := TypeDesc.tuple #[116, 116], agg := false, size := 1, bytes := 0, zero := (Value.tuple #[Value.int IntKind.u32 0, Value.int IntKind.u32 0]), ok := true }
def ty166 : TI := { und := TypeDesc.func #[9] #[116, 116] false, agg := false, size := 1, bytes := 8, zero := Value.nilFunc, ok := true }
def ty167 : TI := { und := TypeDesc.tuple #[60, 80], agg := false, size := 1, bytes := 0, zero := (Value.tuple #[Value.int IntKind.u64 0, Value.nilIface]), ok := true }
def ty168 : TI := { und := TypeDesc.func #[9, 3, 3] #[60, 80] false, agg := false, size := 1, bytes := 8, zero := Value.nilFunc, ok := true }
def ty169 : TI := { und := TypeDesc.func #[9] #[9] false, agg := false, size := 1, bytes := 8, zero := Value.nilFunc, ok := true }
def ty170 : TI := { und := TypeDesc.struct #[{ name := "Func", type := 9, offset := 0, embedded := false, tag := "", pkgPath := "", byteOffset := 0 }, { name := "Num", type := 9, offset := 1, embedded := false, tag := "", pkgPath := "", byteOffset := 16 }, { name := "Err", type := 80, offset := 2, embedded := false, tag := "", pkgPath := "", byteOffset := 32 }], agg := true, size := 3, bytes := 48, zero := (Value.agg #[Value.string { data := #[] }, Value.string { data := #[] }, Value.nilIface]), ok := true }
def ty171 : TI := { und := TypeDesc.struct #[{ name := "Func", type := 9, offset := 0, embedded := false, tag := "", pkgPath := "", byteOffset := 0 }, { name := "Num", type := 9, offset := 1, embedded := false, tag := "", pkgPath := "", byteOffset := 16 }, { name := "Err", type := 80, offset := 2, embedded := false, tag := "", pkgPath := "", byteOffset := 32 }], agg := true, size := 3, bytes := 48, zero := (Value.agg #[Value.string { data := #[] }, Value.string { data := #[] }, Value.nilIface]), ok := true }
def ty172 : TI := { und := TypeDesc.func #[9] #[80] false, agg := false, size := 1, bytes := 8, zero := Value.nilFunc, ok := true }
def ty173 : TI := { und := TypeDesc.func #[5] #[5] false, agg := false, size := 1, bytes := 8, zero := Value.nilFunc, ok := true }
def ty174 : TI := { und := TypeDesc.pointer 176, agg := false, size := 1, bytes := 8, zero := (Value.pointer none), ok := true }
def ty175 : TI := { und := TypeDesc.struct #[{ name := "s", type := 9, offset := 0, embedded := false, tag := "", pkgPath := "errors", byteOffset := 0 }], agg := true, size := 1, bytes := 16, zero := (Value.agg #[Value.string { data := #[] }]), ok := true }
def ty176 : TI := { und := TypeDesc.struct #[{ name := "s", type := 9, offset := 0, embedded := false, tag := "", pkgPath := "errors", byteOffset := 0 }], agg := true, size := 1, bytes := 16, zero := (Value.agg #[Value.string { data := #[] }]), ok := true }
def ty177 : TI := { und := TypeDesc.array 32 5, agg := true, size := 32, bytes := 32, zero := (Value.agg #[Value.int IntKind.u8 0, Value.int IntKind.u8 0, Value.int IntKind.u8 0, Value.int IntKind.u8 0, Value.int IntKind.u8 0, Value.int IntKind.u8 0, Value.int IntKind.u8 0, Value.int IntKind.u8 0, Value.int IntKind.u8 0, Value.int IntKind.u8 0, Value.int IntKind.u8 0, Value.int IntKind.u8 0, Value.int IntKind.u8 0, Value.int IntKind.u8 0, Value.int IntKind.u8 0, Value.int IntKind.u8 0, Value.int IntKind.u8 0, Value.int IntKind.u8 0, Value.int IntKind.u8 0, Value.int IntKind.u8 0, Value.int IntKind.u8 0, Value.int IntKind.u8 0, Value.int IntKind.u8 0, Value.int IntKind.u8 0, Value.int IntKind.u8 0, Value.int IntKind.u8 0, Value.int IntKind.u8 0, Value.int IntKind.u8 0, Value.int IntKind.u8 0, Value.int IntKind.u8 0, Value.int IntKind.u8 0, Value.int IntKind.u8 0]), ok := true }
def ty178 : TI := { und := TypeDesc.struct #[{ name := "_interface", type := 17, offset := 0, embedded := false, tag := "", pkgPath := "runtime", byteOffset := 0 }, { name := "concrete", type := 17, offset := 1, embedded := false, tag := "", pkgPath := "runtime", byteOffset := 8 }, { name := "asserted", type := 17, offset := 2, embedded := false, tag := "", pkgPath := "runtime", byteOffset := 16 }, { name := "missingMethod", type := 9, offset := 3, embedded := false, tag := "", pkgPath := "runtime", byteOffset := 24 }], agg := true, size := 4, bytes := 40, zero := (Value.agg #[Value.pointer none, Value.pointer none, Value.pointer none, Value.string { data := #[] }]), ok := true }
def ty179 : TI := { und := TypeDesc.struct #[{ name := "_interface", type := 17, offset := 0, embedded := false, tag := "", pkgPath := "runtime", byteOffset := 0 }, { name := "concrete", type := 17, offset := 1, embedded := false, tag := "", pkgPath := "runtime", byteOffset := 8 }, { name := "asserted", type := 17, offset := 2, embedded := false, tag := "", pkgPath := "runtime", byteOffset := 16 }, { name := "missingMethod", type := 9, offset := 3, embedded := false, tag := "", pkgPath := "runtime", byteOffset := 24 }], agg := true, size := 4, bytes := 40, zero := (Value.agg #[Value.pointer none, Value.pointer none, Value.pointer none, Value.string { data := #[] }]), ok := true }
def ty180 : TI := { und := TypeDesc.array 0 16, agg := true, size := 0, bytes := 0, zero := (Value.agg #[]), ok := true }
def ty181 : TI := { und := TypeDesc.struct #[{ name := "_", type := 180, offset := 0, embedded := false, tag := "", pkgPath := "runtime", byteOffset := 0 }], agg := true, size := 0, bytes := 0, zero := (Value.agg #[]), ok := true }
def ty182 : TI := { und := TypeDesc.struct #[{ name := "_", type := 180, offset := 0, embedded := false, tag := "", pkgPath := "runtime", byteOffset := 0 }], agg := true, size := 0, bytes := 0, zero := (Value.agg #[]), ok := true }
def ty183 : TI := { und := TypeDesc.func #[] #[3] false, agg := false, size := 1, bytes := 8, zero := Value.nilFunc, ok := true }
def ty184 : TI := { und := TypeDesc.int IntKind.u8, agg := false, size := 1, bytes := 1, zero := (Value.int IntKind.u8 0), ok := true }
def ty185 : TI := { und := TypeDesc.int IntKind.u8, agg := false, size := 1, bytes := 1, zero := (Value.int IntKind.u8 0), ok := true }
def ty186 : TI := { und := TypeDesc.func #[129, 129] #[4] false, agg := false, size := 1, bytes := 8, zero := Value.nilFunc, ok := true }
def ty187 : TI := { und := TypeDesc.int IntKind.i32, agg := false, size := 1, bytes := 4, zero := (Value.int IntKind.i32 0), ok := true }
def ty188 : TI := { und := TypeDesc.int IntKind.i32, agg := false, size := 1, bytes := 4, zero := (Value.int IntKind.i32 0), ok := true }
def ty189 : TI := { und := TypeDesc.struct #[{ name := "Size_", type := 12, offset := 0, embedded := false, tag := "", pkgPath := "", byteOffset := 0 }, { name := "PtrBytes", type := 12, offset := 1, embedded := false, tag := "", pkgPath := "", byteOffset := 8 }, { name := "Hash", type := 116, offset := 2, embedded := false, tag := "", pkgPath := "", byteOffset := 16 }, { name := "TFlag", type := 184, offset := 3, embedded := false, tag := "", pkgPath := "", byteOffset := 20 }, { name := "Align_", type := 5, offset := 4, embedded := false, tag := "", pkgPath := "", byteOffset := 21 }, { name := "FieldAlign_", type := 5, offset := 5, embedded := false, tag := "", pkgPath := "", byteOffset := 22 }, { name := "Kind_", type := 185, offset := 6, embedded := false, tag := "", pkgPath := "", byteOffset := 23 }, { name := "Equal", type := 186, offset := 7, embedded := false, tag := "", pkgPath := "", byteOffset := 24 }, { name := "GCData", type := 91, offset := 8, embedded := false, tag := "", pkgPath := "", byteOffset := 32 }, { name := "Str", type := 187, offset := 9, embedded := false, tag := "", pkgPath := "", byteOffset := 40 }, { name := "PtrToThis", type := 188, offset := 10, embedded := false, tag := "", pkgPath := "", byteOffset := 44 }], agg := true, size := 11, bytes := 48, zero := (Value.agg #[Value.int IntKind.u64 0, Value.int IntKind.u64 0, Value.int IntKind.u32 0, Value.int IntKind.u8 0, Value.int IntKind.u8 0, Value.int IntKind.u8 0, Value.int IntKind.u8 0, Value.nilFunc, Value.pointer none, Value.int IntKind.i32 0, Value.int IntKind.i32 0]), ok := true }
def ty190 : TI := { und := TypeDesc.struct #[{ name := "Size_", type := 12, offset := 0, embedded := false, tag := "", pkgPath := "", byteOffset := 0 }, { name := "PtrBytes", type := 12, offset := 1, embedded := false, tag := "", pkgPath := "", byteOffset := 8 }, { name := "Hash", type := 116, offset := 2, embedded := false, tag := "", pkgPath := "", byteOffset := 16 }, { name := "TFlag", type := 184, offset := 3, embedded := false, tag := "", pkgPath := "", byteOffset := 20 }, { name := "Align_", type := 5, offset := 4, embedded := false, tag := "", pkgPath := "", byteOffset := 21 }, { name := "FieldAlign_", type := 5, offset := 5, embedded := false, tag := "", pkgPath := "", byteOffset := 22 }, { name := "Kind_", type := 185, offset := 6, embedded := false, tag := "", pkgPath := "", byteOffset := 23 }, { name := "Equal", type := 186, offset := 7, embedded := false, tag := "", pkgPath := "", byteOffset := 24 }, { name := "GCData", type := 91, offset := 8, embedded := false, tag := "", pkgPath := "", byteOffset := 32 }, { name := "Str", type := 187, offset := 9, embedded := false, tag := "", pkgPath := "", byteOffset := 40 }, { name := "PtrToThis", type := 188, offset := 10, embedded := false, tag := "", pkgPath := "", byteOffset := 44 }], agg := true, size := 11, bytes := 48, zero := (Value.agg #[Value.int IntKind.u64 0, Value.int IntKind.u64 0, Value.int IntKind.u32 0, Value.int IntKind.u8 0, Value.int IntKind.u8 0, Value.int IntKind.u8 0, Value.int IntKind.u8 0, Value.nilFunc, Value.pointer none, Value.int IntKind.i32 0, Value.int IntKind.i32 0]), ok := true }
def ttl : List TI := [ty0, ty1, ty2, ty3, ty4, ty5, ty6, ty7, ty8, ty9, ty10, ty11, ty12, ty13, ty14, ty15, ty16, ty17, ty18, ty19, ty20, ty21, ty22, ty23, ty24, ty25, ty26, ty27, ty28, ty29, ty30, ty31, ty32, ty33, ty34, ty35, ty36, ty37, ty38, ty39, ty40, ty41, ty42, ty43, ty44, ty45, ty46, ty47, ty48, ty49, ty50, ty51, ty52, ty53, ty54, ty55, ty56, ty57, ty58, ty59, ty60, ty61, ty62, ty63, ty64, ty65, ty66, ty67, ty68, ty69, ty70, ty71, ty72, ty73, ty74, ty75, ty76, ty77, ty78, ty79, ty80, ty81, ty82, ty83, ty84, ty85, ty86, ty87, ty88, ty89, ty90, ty91, ty92, ty93, ty94, ty95, ty96, ty97, ty98, ty99, ty100, ty101, ty102, ty103, ty104, ty105, ty106, ty107, ty108, ty109, ty110, ty111, ty112, ty113, ty114, ty115, ty116, ty117, ty118, ty119, ty120, ty121, ty122, ty123, ty124, ty125, ty126, ty127, ty128, ty129, ty130, ty131, ty132, ty133, ty134, ty135, ty136, ty137, ty138, ty139, ty140, ty141, ty142, ty143, ty144, ty145, ty146, ty147, ty148, ty149, ty150, ty151, ty152, ty153, ty154, ty155, ty156, ty157, ty158, ty159, ty160, ty161, ty162, ty163, ty164, ty165, ty166, ty167, ty168, ty169, ty170, ty171, ty172, ty173, ty174, ty175, ty176, ty177, ty178, ty179, ty180, ty181, ty182, ty183, ty184, ty185, ty186, ty187, ty188, ty189, ty190]
def tt (t : Nat) : TI := ttl.getD t badT
theorem tk0 : OkT Tryz.prog 0 ty0 := ⟨Tryz.underlying0, ⟨Tryz.t0, by kernel_rfl, rfl, rfl, rfl⟩, rfl, rfl⟩
theorem tk1 : OkT Tryz.prog 1 ty1 := ⟨Tryz.underlying1, ⟨Tryz.t1, by kernel_rfl, rfl, rfl, rfl⟩, rfl, rfl⟩
theorem tk2 : OkT Tryz.prog 2 ty2 := ⟨Tryz.underlying2, ⟨Tryz.t2, by kernel_rfl, rfl, rfl, rfl⟩, rfl, rfl⟩
theorem tk3 : OkT Tryz.prog 3 ty3 := ⟨Tryz.underlying3, ⟨Tryz.t3, by kernel_rfl, rfl, rfl, rfl⟩, rfl, rfl⟩
theorem tk4 : OkT Tryz.prog 4 ty4 := ⟨Tryz.underlying4, ⟨Tryz.t4, by kernel_rfl, rfl, rfl, rfl⟩, rfl, rfl⟩
theorem tk5 : OkT Tryz.prog 5 ty5 := ⟨Tryz.underlying5, ⟨Tryz.t5, by kernel_rfl, rfl, rfl, rfl⟩, rfl, rfl⟩
theorem tk6 : OkT Tryz.prog 6 ty6 := ⟨Tryz.underlying6, ⟨Tryz.t6, by kernel_rfl, rfl, rfl, rfl⟩, rfl, rfl⟩
theorem tk7 : OkT Tryz.prog 7 ty7 := ⟨Tryz.underlying7, ⟨Tryz.t7, by kernel_rfl, rfl, rfl, rfl⟩, rfl, rfl⟩
theorem tk8 : OkT Tryz.prog 8 ty8 := ⟨Tryz.underlying8, ⟨Tryz.t8, by kernel_rfl, rfl, rfl, rfl⟩, rfl, rfl⟩
theorem tk9 : OkT Tryz.prog 9 ty9 := ⟨Tryz.underlying9, ⟨Tryz.t9, by kernel_rfl, rfl, rfl, rfl⟩, rfl, rfl⟩
theorem tk10 : OkT Tryz.prog 10 ty10 := ⟨Tryz.underlying10, ⟨Tryz.t10, by kernel_rfl, rfl, rfl, rfl⟩, rfl, rfl⟩
theorem tk11 : OkT Tryz.prog 11 ty11 := ⟨Tryz.underlying11, ⟨Tryz.t11, by kernel_rfl, rfl, rfl, rfl⟩, rfl, rfl⟩
theorem tk12 : OkT Tryz.prog 12 ty12 := ⟨Tryz.underlying12, ⟨Tryz.t12, by kernel_rfl, rfl, rfl, rfl⟩, rfl, rfl⟩
theorem tk13 : OkT Tryz.prog 13 ty13 := ⟨Tryz.underlying13, ⟨Tryz.t13, by kernel_rfl, rfl, rfl, rfl⟩, rfl, rfl⟩
theorem tk14 : OkT Tryz.prog 14 ty14 := ⟨Tryz.underlying14, ⟨Tryz.t14, by kernel_rfl, rfl, rfl, rfl⟩, rfl, rfl⟩
theorem tk15 : OkT Tryz.prog 15 ty15 := ⟨Tryz.underlying15, ⟨Tryz.t15, by kernel_rfl, rfl, rfl, rfl⟩, rfl, rfl⟩
theorem tk16 : OkT Tryz.prog 16 ty16 := ⟨Tryz.underlying16, ⟨Tryz.t16, by kernel_rfl, rfl, rfl, rfl⟩, rfl, rfl⟩
theorem tk17 : OkT Tryz.prog 17 ty17 := ⟨Tryz.underlying17, ⟨Tryz.t17, by kernel_rfl, rfl, rfl, rfl⟩, rfl, rfl⟩
theorem tk18 : OkT Tryz.prog 18 ty18 := ⟨Tryz.underlying18, ⟨Tryz.t18, by kernel_rfl, rfl, rfl, rfl⟩, rfl, rfl⟩
theorem tk19 : OkT Tryz.prog 19 ty19 := ⟨Tryz.underlying19, ⟨Tryz.t19, by kernel_rfl, rfl, rfl, rfl⟩, rfl, rfl⟩
theorem tk20 : OkT Tryz.prog 20 ty20 := ⟨Tryz.underlying20, ⟨Tryz.t20, by kernel_rfl, rfl, rfl, rfl⟩, rfl, rfl⟩
theorem tk21 : OkT Tryz.prog 21 ty21 := ⟨Tryz.underlying21, ⟨Tryz.t21, by kernel_rfl, rfl, rfl, rfl⟩, rfl, rfl⟩
theorem tk22 : OkT Tryz.prog 22 ty22 := ⟨Tryz.underlying22, ⟨Tryz.t22, by kernel_rfl, rfl, rfl, rfl⟩, rfl, rfl⟩
theorem tk23 : OkT Tryz.prog 23 ty23 := ⟨Tryz.underlying23, ⟨Tryz.t23, by kernel_rfl, rfl, rfl, rfl⟩, rfl, rfl⟩
theorem tk24 : OkT Tryz.prog 24 ty24 := ⟨Tryz.underlying24, ⟨Tryz.t24, by kernel_rfl, rfl, rfl, rfl⟩, rfl, rfl⟩
theorem tk25 : OkT Tryz.prog 25 ty25 := ⟨Tryz.underlying25, ⟨Tryz.t25, by kernel_rfl, rfl, rfl, rfl⟩, rfl, rfl⟩
theorem tk26 : OkT Tryz.prog 26 ty26 := ⟨Tryz.underlying26, ⟨Tryz.t26, by kernel_rfl, rfl, rfl, rfl⟩, rfl, rfl⟩
theorem tk27 : OkT Tryz.prog 27 ty27 := ⟨Tryz.underlying27, ⟨Tryz.t27, by kernel_rfl, rfl, rfl, rfl⟩, rfl, rfl⟩
theorem tk28 : OkT Tryz.prog 28 ty28 := ⟨Tryz.underlying28, ⟨Tryz.t28, by kernel_rfl, rfl, rfl, rfl⟩, rfl, rfl⟩
theorem tk29 : OkT Tryz.prog 29 ty29 := ⟨Tryz.underlying29, ⟨Tryz.t29, by kernel_rfl, rfl, rfl, rfl⟩, rfl, rfl⟩
theorem tk30 : OkT Tryz.prog 30 ty30 := ⟨Tryz.underlying30, ⟨Tryz.t30, by kernel_rfl, rfl, rfl, rfl⟩, rfl, rfl⟩
theorem tk31 : OkT Tryz.prog 31 ty31 := ⟨Tryz.underlying31, ⟨Tryz.t31, by kernel_rfl, rfl, rfl, rfl⟩, rfl, rfl⟩
theorem tk32 : OkT Tryz.prog 32 ty32 := ⟨Tryz.underlying32, ⟨Tryz.t32, by kernel_rfl, rfl, rfl, rfl⟩, rfl, rfl⟩
theorem tk33 : OkT Tryz.prog 33 ty33 := ⟨Tryz.underlying33, ⟨Tryz.t33, by kernel_rfl, rfl, rfl, rfl⟩, rfl, rfl⟩
theorem tk34 : OkT Tryz.prog 34 ty34 := ⟨Tryz.underlying34, ⟨Tryz.t34, by kernel_rfl, rfl, rfl, rfl⟩, rfl, rfl⟩
theorem tk35 : OkT Tryz.prog 35 ty35 := ⟨Tryz.underlying35, ⟨Tryz.t35, by kernel_rfl, rfl, rfl, rfl⟩, rfl, rfl⟩
theorem tk36 : OkT Tryz.prog 36 ty36 := ⟨Tryz.underlying36, ⟨Tryz.t36, by kernel_rfl, rfl, rfl, rfl⟩, rfl, rfl⟩
theorem tk37 : OkT Tryz.prog 37 ty37 := ⟨Tryz.underlying37, ⟨Tryz.t37, by kernel_rfl, rfl, rfl, rfl⟩, rfl, rfl⟩
theorem tk38 : OkT Tryz.prog 38 ty38 := ⟨Tryz.underlying38, ⟨Tryz.t38, by kernel_rfl, rfl, rfl, rfl⟩, rfl, rfl⟩
theorem tk39 : OkT Tryz.prog 39 ty39 := ⟨Tryz.underlying39, ⟨Tryz.t39, by kernel_rfl, rfl, rfl, rfl⟩, rfl, rfl⟩
theorem tk40 : OkT Tryz.prog 40 ty40 := ⟨Tryz.underlying40, ⟨Tryz.t40, by kernel_rfl, rfl, rfl, rfl⟩, rfl, rfl⟩
theorem tk41 : OkT Tryz.prog 41 ty41 := ⟨Tryz.underlying41, ⟨Tryz.t41, by kernel_rfl, rfl, rfl, rfl⟩, rfl, rfl⟩
theorem tk42 : OkT Tryz.prog 42 ty42 := ⟨Tryz.underlying42, ⟨Tryz.t42, by kernel_rfl, rfl, rfl, rfl⟩, rfl, rfl⟩
theorem tk43 : OkT Tryz.prog 43 ty43 := ⟨Tryz.underlying43, ⟨Tryz.t43, by kernel_rfl, rfl, rfl, rfl⟩, rfl, rfl⟩
theorem tk44 : OkT Tryz.prog 44 ty44 := ⟨Tryz.underlying44, ⟨Tryz.t44, by kernel_rfl, rfl, rfl, rfl⟩, rfl, rfl⟩
theorem tk45 : OkT Tryz.prog 45 ty45 := ⟨Tryz.underlying45, ⟨Tryz.t45, by kernel_rfl, rfl, rfl, rfl⟩, rfl, rfl⟩
theorem tk46 : OkT Tryz.prog 46 ty46 := ⟨Tryz.underlying46, ⟨Tryz.t46, by kernel_rfl, rfl, rfl, rfl⟩, rfl, rfl⟩
theorem tk47 : OkT Tryz.prog 47 ty47 := ⟨Tryz.underlying47, ⟨Tryz.t47, by kernel_rfl, rfl, rfl, rfl⟩, rfl, rfl⟩
theorem tk48 : OkT Tryz.prog 48 ty48 := ⟨Tryz.underlying48, ⟨Tryz.t48, by kernel_rfl, rfl, rfl, rfl⟩, rfl, rfl⟩
theorem tk49 : OkT Tryz.prog 49 ty49 := ⟨Tryz.underlying49, ⟨Tryz.t49, by kernel_rfl, rfl, rfl, rfl⟩, rfl, rfl⟩
theorem tk50 : OkT Tryz.prog 50 ty50 := ⟨Tryz.underlying50, ⟨Tryz.t50, by kernel_rfl, rfl, rfl, rfl⟩, rfl, rfl⟩
theorem tk51 : OkT Tryz.prog 51 ty51 := ⟨Tryz.underlying51, ⟨Tryz.t51, by kernel_rfl, rfl, rfl, rfl⟩, rfl, rfl⟩
theorem tk52 : OkT Tryz.prog 52 ty52 := ⟨Tryz.underlying52, ⟨Tryz.t52, by kernel_rfl, rfl, rfl, rfl⟩, rfl, rfl⟩
theorem tk53 : OkT Tryz.prog 53 ty53 := ⟨Tryz.underlying53, ⟨Tryz.t53, by kernel_rfl, rfl, rfl, rfl⟩, rfl, rfl⟩
theorem tk54 : OkT Tryz.prog 54 ty54 := ⟨Tryz.underlying54, ⟨Tryz.t54, by kernel_rfl, rfl, rfl, rfl⟩, rfl, rfl⟩
theorem tk55 : OkT Tryz.prog 55 ty55 := ⟨Tryz.underlying55, ⟨Tryz.t55, by kernel_rfl, rfl, rfl, rfl⟩, rfl, rfl⟩
theorem tk56 : OkT Tryz.prog 56 ty56 := ⟨Tryz.underlying56, ⟨Tryz.t56, by kernel_rfl, rfl, rfl, rfl⟩, rfl, rfl⟩
theorem tk57 : OkT Tryz.prog 57 ty57 := ⟨Tryz.underlying57, ⟨Tryz.t57, by kernel_rfl, rfl, rfl, rfl⟩, rfl, rfl⟩
theorem tk58 : OkT Tryz.prog 58 ty58 := ⟨Tryz.underlying58, ⟨Tryz.t58, by kernel_rfl, rfl, rfl, rfl⟩, rfl, rfl⟩
theorem tk59 : OkT Tryz.prog 59 ty59 := ⟨Tryz.underlying59, ⟨Tryz.t59, by kernel_rfl, rfl, rfl, rfl⟩, rfl, rfl⟩
theorem tk60 : OkT Tryz.prog 60 ty60 := ⟨Tryz.underlying60, ⟨Tryz.t60, by kernel_rfl, rfl, rfl, rfl⟩, rfl, rfl⟩
theorem tk61 : OkT Tryz.prog 61 ty61 := ⟨Tryz.underlying61, ⟨Tryz.t61, by kernel_rfl, rfl, rfl, rfl⟩, rfl, rfl⟩
theorem tk62 : OkT Tryz.prog 62 ty62 := ⟨Tryz.underlying62, ⟨Tryz.t62, by kernel_rfl, rfl, rfl, rfl⟩, rfl, rfl⟩
theorem tk63 : OkT Tryz.prog 63 ty63 := ⟨Tryz.underlying63, ⟨Tryz.t63, by kernel_rfl, rfl, rfl, rfl⟩, rfl, rfl⟩
theorem tk64 : OkT Tryz.prog 64 ty64 := ⟨Tryz.underlying64, ⟨Tryz.t64, by kernel_rfl, rfl, rfl, rfl⟩, rfl, rfl⟩
theorem tk65 : OkT Tryz.prog 65 ty65 := ⟨Tryz.underlying65, ⟨Tryz.t65, by kernel_rfl, rfl, rfl, rfl⟩, rfl, rfl⟩
theorem tk66 : OkT Tryz.prog 66 ty66 := ⟨Tryz.underlying66, ⟨Tryz.t66, by kernel_rfl, rfl, rfl, rfl⟩, rfl, rfl⟩
theorem tk67 : OkT Tryz.prog 67 ty67 := ⟨Tryz.underlying67, ⟨Tryz.t67, by kernel_rfl, rfl, rfl, rfl⟩, rfl, rfl⟩
theorem tk68 : OkT Tryz.prog 68 ty68 := ⟨Tryz.underlying68, ⟨Tryz.t68, by kernel_rfl, rfl, rfl, rfl⟩, rfl, rfl⟩
theorem tk69 : OkT Tryz.prog 69 ty69 := ⟨Tryz.underlying69, ⟨Tryz.t69, by kernel_rfl, rfl, rfl, rfl⟩, rfl, rfl⟩
theorem tk70 : OkT Tryz.prog 70 ty70 := ⟨Tryz.underlying70, ⟨Tryz.t70, by kernel_rfl, rfl, rfl, rfl⟩, rfl, rfl⟩
theorem tk71 : OkT Tryz.prog 71 ty71 := ⟨Tryz.underlying71, ⟨Tryz.t71, by kernel_rfl, rfl, rfl, rfl⟩, rfl, rfl⟩
theorem tk72 : OkT Tryz.prog 72 ty72 := ⟨Tryz.underlying72, ⟨Tryz.t72, by kernel_rfl, rfl, rfl, rfl⟩, rfl, rfl⟩
theorem tk73 : OkT Tryz.prog 73 ty73 := ⟨Tryz.underlying73, ⟨Tryz.t73, by kernel_rfl, rfl, rfl, rfl⟩, rfl, rfl⟩
theorem tk74 : OkT Tryz.prog 74 ty74 := ⟨Tryz.underlying74, ⟨Tryz.t74, by kernel_rfl, rfl, rfl, rfl⟩, rfl, rfl⟩
theorem tk75 : OkT Tryz.prog 75 ty75 := ⟨Tryz.underlying75, ⟨Tryz.t75, by kernel_rfl, rfl, rfl, rfl⟩, rfl, rfl⟩
theorem tk76 : OkT Tryz.prog 76 ty76 := ⟨Tryz.underlying76, ⟨Tryz.t76, by kernel_rfl, rfl, rfl, rfl⟩, rfl, rfl⟩
theorem tk77 : OkT Tryz.prog 77 ty77 := ⟨Tryz.underlying77, ⟨Tryz.t77, by kernel_rfl, rfl, rfl, rfl⟩, rfl, rfl⟩
theorem tk78 : OkT Tryz.prog 78 ty78 := ⟨Tryz.underlying78, ⟨Tryz.t78, by kernel_rfl, rfl, rfl, rfl⟩, rfl, rfl⟩
theorem tk79 : OkT Tryz.prog 79 ty79 := ⟨Tryz.underlying79, ⟨Tryz.t79, by kernel_rfl, rfl, rfl, rfl⟩, rfl, rfl⟩
theorem tk80 : OkT Tryz.prog 80 ty80 := ⟨Tryz.underlying80, ⟨Tryz.t80, by kernel_rfl, rfl, rfl, rfl⟩, rfl, rfl⟩
theorem tk81 : OkT Tryz.prog 81 ty81 := ⟨Tryz.underlying81, ⟨Tryz.t81, by kernel_rfl, rfl, rfl, rfl⟩, rfl, rfl⟩
theorem tk82 : OkT Tryz.prog 82 ty82 := ⟨Tryz.underlying82, ⟨Tryz.t82, by kernel_rfl, rfl, rfl, rfl⟩, rfl, rfl⟩
theorem tk83 : OkT Tryz.prog 83 ty83 := ⟨Tryz.underlying83, ⟨Tryz.t83, by kernel_rfl, rfl, rfl, rfl⟩, rfl, rfl⟩
theorem tk84 : OkT Tryz.prog 84 ty84 := ⟨Tryz.underlying84, ⟨Tryz.t84, by kernel_rfl, rfl, rfl, rfl⟩, rfl, rfl⟩
theorem tk85 : OkT Tryz.prog 85 ty85 := ⟨Tryz.underlying85, ⟨Tryz.t85, by kernel_rfl, rfl, rfl, rfl⟩, rfl, rfl⟩
theorem tk86 : OkT Tryz.prog 86 ty86 := ⟨Tryz.underlying86, ⟨Tryz.t86, by kernel_rfl, rfl, rfl, rfl⟩, rfl, rfl⟩
theorem tk87 : OkT Tryz.prog 87 ty87 := ⟨Tryz.underlying87, ⟨Tryz.t87, by kernel_rfl, rfl, rfl, rfl⟩, rfl, rfl⟩
theorem tk88 : OkT Tryz.prog 88 ty88 := ⟨Tryz.underlying88, ⟨Tryz.t88, by kernel_rfl, rfl, rfl, rfl⟩, rfl, rfl⟩
theorem tk89 : OkT Tryz.prog 89 ty89 := ⟨Tryz.underlying89, ⟨Tryz.t89, by kernel_rfl, rfl, rfl, rfl⟩, rfl, rfl⟩
theorem tk90 : OkT Tryz.prog 90 ty90 := ⟨Tryz.underlying90, ⟨Tryz.t90, by kernel_rfl, rfl, rfl, rfl⟩, rfl, rfl⟩
theorem tk91 : OkT Tryz.prog 91 ty91 := ⟨Tryz.underlying91, ⟨Tryz.t91, by kernel_rfl, rfl, rfl, rfl⟩, rfl, rfl⟩
theorem tk92 : OkT Tryz.prog 92 ty92 := ⟨Tryz.underlying92, ⟨Tryz.t92, by kernel_rfl, rfl, rfl, rfl⟩, rfl, rfl⟩
theorem tk93 : OkT Tryz.prog 93 ty93 := ⟨Tryz.underlying93, ⟨Tryz.t93, by kernel_rfl, rfl, rfl, rfl⟩, rfl, rfl⟩
theorem tk94 : OkT Tryz.prog 94 ty94 := ⟨Tryz.underlying94, ⟨Tryz.t94, by kernel_rfl, rfl, rfl, rfl⟩, rfl, rfl⟩
theorem tk95 : OkT Tryz.prog 95 ty95 := ⟨Tryz.underlying95, ⟨Tryz.t95, by kernel_rfl, rfl, rfl, rfl⟩, rfl, rfl⟩
theorem tk96 : OkT Tryz.prog 96 ty96 := ⟨Tryz.underlying96, ⟨Tryz.t96, by kernel_rfl, rfl, rfl, rfl⟩, rfl, rfl⟩
theorem tk97 : OkT Tryz.prog 97 ty97 := ⟨Tryz.underlying97, ⟨Tryz.t97, by kernel_rfl, rfl, rfl, rfl⟩, rfl, rfl⟩
theorem tk98 : OkT Tryz.prog 98 ty98 := ⟨Tryz.underlying98, ⟨Tryz.t98, by kernel_rfl, rfl, rfl, rfl⟩, rfl, rfl⟩
theorem tk99 : OkT Tryz.prog 99 ty99 := ⟨Tryz.underlying99, ⟨Tryz.t99, by kernel_rfl, rfl, rfl, rfl⟩, rfl, rfl⟩
theorem tk100 : OkT Tryz.prog 100 ty100 := ⟨Tryz.underlying100, ⟨Tryz.t100, by kernel_rfl, rfl, rfl, rfl⟩, rfl, rfl⟩
theorem tk101 : OkT Tryz.prog 101 ty101 := ⟨Tryz.underlying101, ⟨Tryz.t101, by kernel_rfl, rfl, rfl, rfl⟩, rfl, rfl⟩
theorem tk102 : OkT Tryz.prog 102 ty102 := ⟨Tryz.underlying102, ⟨Tryz.t102, by kernel_rfl, rfl, rfl, rfl⟩, rfl, rfl⟩
theorem tk103 : OkT Tryz.prog 103 ty103 := ⟨Tryz.underlying103, ⟨Tryz.t103, by kernel_rfl, rfl, rfl, rfl⟩, rfl, rfl⟩
theorem tk104 : OkT Tryz.prog 104 ty104 := ⟨Tryz.underlying104, ⟨Tryz.t104, by kernel_rfl, rfl, rfl, rfl⟩, rfl, rfl⟩
theorem tk105 : OkT Tryz.prog 105 ty105 := ⟨Tryz.underlying105, ⟨Tryz.t105, by kernel_rfl, rfl, rfl, rfl⟩, rfl, rfl⟩
theorem tk106 : OkT Tryz.prog 106 ty106 := ⟨Tryz.underlying106, ⟨Tryz.t106, by kernel_rfl, rfl, rfl, rfl⟩, rfl, rfl⟩
theorem tk107 : OkT Tryz.prog 107 ty107 := ⟨Tryz.underlying107, ⟨Tryz.t107, by kernel_rfl, rfl, rfl, rfl⟩, rfl, rfl⟩
theorem tk108 : OkT Tryz.prog 108 ty108 := ⟨Tryz.underlying108, ⟨Tryz.t108, by kernel_rfl, rfl, rfl, rfl⟩, rfl, rfl⟩
theorem tk109 : OkT Tryz.prog 109 ty109 := ⟨Tryz.underlying109, ⟨Tryz.t109, by kernel_rfl, rfl, rfl, rfl⟩, rfl, rfl⟩
theorem tk110 : OkT Tryz.prog 110 ty110 := ⟨Tryz.underlying110, ⟨Tryz.t110, by kernel_rfl, rfl, rfl, rfl⟩, rfl, rfl⟩
theorem tk111 : OkT Tryz.prog 111 ty111 := ⟨Tryz.underlying111, ⟨Tryz.t111, by kernel_rfl, rfl, rfl, rfl⟩, rfl, rfl⟩
theorem tk112 : OkT Tryz.prog 112 ty112 := ⟨Tryz.underlying112, ⟨Tryz.t112, by kernel_rfl, rfl, rfl, rfl⟩, rfl, rfl⟩
theorem tk113 : OkT Tryz.prog 113 ty113 := ⟨Tryz.underlying113, ⟨Tryz.t113, by kernel_rfl, rfl, rfl, rfl⟩, rfl, rfl⟩
theorem tk114 : OkT Tryz.prog 114 ty114 := ⟨Tryz.underlying114, ⟨Tryz.t114, by kernel_rfl, rfl, rfl, rfl⟩, rfl, rfl⟩
theorem tk115 : OkT Tryz.prog 115 ty115 := ⟨Tryz.underlying115, ⟨Tryz.t115, by kernel_rfl, rfl, rfl, rfl⟩, rfl, rfl⟩
theorem tk116 : OkT Tryz.prog 116 ty116 := ⟨Tryz.underlying116, ⟨Tryz.t116, by kernel_rfl, rfl, rfl, rfl⟩, rfl, rfl⟩
theorem tk117 : OkT Tryz.prog 117 ty117 := ⟨Tryz.underlying117, ⟨Tryz.t117, by kernel_rfl, rfl, rfl, rfl⟩, rfl, rfl⟩
theorem tk118 : OkT Tryz.prog 118 ty118 := ⟨Tryz.underlying118, ⟨Tryz.t118, by kernel_rfl, rfl, rfl, rfl⟩, rfl, rfl⟩
theorem tk119 : OkT Tryz.prog 119 ty119 := ⟨Tryz.underlying119, ⟨Tryz.t119, by kernel_rfl, rfl, rfl, rfl⟩, rfl, rfl⟩
theorem tk120 : OkT Tryz.prog 120 ty120 := ⟨Tryz.underlying120, ⟨Tryz.t120, by kernel_rfl, rfl, rfl, rfl⟩, rfl, rfl⟩
theorem tk121 : OkT Tryz.prog 121 ty121 := ⟨Tryz.underlying121, ⟨Tryz.t121, by kernel_rfl, rfl, rfl, rfl⟩, rfl, rfl⟩
theorem tk122 : OkT Tryz.prog 122 ty122 := ⟨Tryz.underlying122, ⟨Tryz.t122, by kernel_rfl, rfl, rfl, rfl⟩, rfl, rfl⟩
theorem tk123 : OkT Tryz.prog 123 ty123 := ⟨Tryz.underlying123, ⟨Tryz.t123, by kernel_rfl, rfl, rfl, rfl⟩, rfl, rfl⟩
theorem tk124 : OkT Tryz.prog 124 ty124 := ⟨Tryz.underlying124, ⟨Tryz.t124, by kernel_rfl, rfl, rfl, rfl⟩, rfl, rfl⟩
theorem tk125 : OkT Tryz.prog 125 ty125 := ⟨Tryz.underlying125, ⟨Tryz.t125, by kernel_rfl, rfl, rfl, rfl⟩, rfl, rfl⟩
theorem tk126 : OkT Tryz.prog 126 ty126 := ⟨Tryz.underlying126, ⟨Tryz.t126, by kernel_rfl, rfl, rfl, rfl⟩, rfl, rfl⟩
theorem tk127 : OkT Tryz.prog 127 ty127 := ⟨Tryz.underlying127, ⟨Tryz.t127, by kernel_rfl, rfl, rfl, rfl⟩, rfl, rfl⟩
theorem tk128 : OkT Tryz.prog 128 ty128 := ⟨Tryz.underlying128, ⟨Tryz.t128, by kernel_rfl, rfl, rfl, rfl⟩, rfl, rfl⟩
theorem tk129 : OkT Tryz.prog 129 ty129 := ⟨Tryz.underlying129, ⟨Tryz.t129, by kernel_rfl, rfl, rfl, rfl⟩, rfl, rfl⟩
theorem tk130 : OkT Tryz.prog 130 ty130 := ⟨Tryz.underlying130, ⟨Tryz.t130, by kernel_rfl, rfl, rfl, rfl⟩, rfl, rfl⟩
theorem tk131 : OkT Tryz.prog 131 ty131 := ⟨Tryz.underlying131, ⟨Tryz.t131, by kernel_rfl, rfl, rfl, rfl⟩, rfl, rfl⟩
theorem tk132 : OkT Tryz.prog 132 ty132 := ⟨Tryz.underlying132, ⟨Tryz.t132, by kernel_rfl, rfl, rfl, rfl⟩, rfl, rfl⟩
theorem tk133 : OkT Tryz.prog 133 ty133 := ⟨Tryz.underlying133, ⟨Tryz.t133, by kernel_rfl, rfl, rfl, rfl⟩, rfl, rfl⟩
theorem tk134 : OkT Tryz.prog 134 ty134 := ⟨Tryz.underlying134, ⟨Tryz.t134, by kernel_rfl, rfl, rfl, rfl⟩, rfl, rfl⟩
theorem tk135 : OkT Tryz.prog 135 ty135 := ⟨Tryz.underlying135, ⟨Tryz.t135, by kernel_rfl, rfl, rfl, rfl⟩, rfl, rfl⟩
theorem tk136 : OkT Tryz.prog 136 ty136 := ⟨Tryz.underlying136, ⟨Tryz.t136, by kernel_rfl, rfl, rfl, rfl⟩, rfl, rfl⟩
theorem tk137 : OkT Tryz.prog 137 ty137 := ⟨Tryz.underlying137, ⟨Tryz.t137, by kernel_rfl, rfl, rfl, rfl⟩, rfl, rfl⟩
theorem tk138 : OkT Tryz.prog 138 ty138 := ⟨Tryz.underlying138, ⟨Tryz.t138, by kernel_rfl, rfl, rfl, rfl⟩, rfl, rfl⟩
theorem tk139 : OkT Tryz.prog 139 ty139 := ⟨Tryz.underlying139, ⟨Tryz.t139, by kernel_rfl, rfl, rfl, rfl⟩, rfl, rfl⟩
theorem tk140 : OkT Tryz.prog 140 ty140 := ⟨Tryz.underlying140, ⟨Tryz.t140, by kernel_rfl, rfl, rfl, rfl⟩, rfl, rfl⟩
theorem tk141 : OkT Tryz.prog 141 ty141 := ⟨Tryz.underlying141, ⟨Tryz.t141, by kernel_rfl, rfl, rfl, rfl⟩, rfl, rfl⟩
theorem tk142 : OkT Tryz.prog 142 ty142 := ⟨Tryz.underlying142, ⟨Tryz.t142, by kernel_rfl, rfl, rfl, rfl⟩, rfl, rfl⟩
theorem tk143 : OkT Tryz.prog 143 ty143 := ⟨Tryz.underlying143, ⟨Tryz.t143, by kernel_rfl, rfl, rfl, rfl⟩, rfl, rfl⟩
theorem tk144 : OkT Tryz.prog 144 ty144 := ⟨Tryz.underlying144, ⟨Tryz.t144, by kernel_rfl, rfl, rfl, rfl⟩, rfl, rfl⟩
theorem tk145 : OkT Tryz.prog 145 ty145 := ⟨Tryz.underlying145, ⟨Tryz.t145, by kernel_rfl, rfl, rfl, rfl⟩, rfl, rfl⟩
theorem tk146 : OkT Tryz.prog 146 ty146 := ⟨Tryz.underlying146, ⟨Tryz.t146, by kernel_rfl, rfl, rfl, rfl⟩, rfl, rfl⟩
theorem tk147 : OkT Tryz.prog 147 ty147 := ⟨Tryz.underlying147, ⟨Tryz.t147, by kernel_rfl, rfl, rfl, rfl⟩, rfl, rfl⟩
theorem tk148 : OkT Tryz.prog 148 ty148 := ⟨Tryz.underlying148, ⟨Tryz.t148, by kernel_rfl, rfl, rfl, rfl⟩, rfl, rfl⟩
theorem tk149 : OkT Tryz.prog 149 ty149 := ⟨Tryz.underlying149, ⟨Tryz.t149, by kernel_rfl, rfl, rfl, rfl⟩, rfl, rfl⟩
theorem tk150 : OkT Tryz.prog 150 ty150 := ⟨Tryz.underlying150, ⟨Tryz.t150, by kernel_rfl, rfl, rfl, rfl⟩, rfl, rfl⟩
theorem tk151 : OkT Tryz.prog 151 ty151 := ⟨Tryz.underlying151, ⟨Tryz.t151, by kernel_rfl, rfl, rfl, rfl⟩, rfl, rfl⟩
theorem tk152 : OkT Tryz.prog 152 ty152 := ⟨Tryz.underlying152, ⟨Tryz.t152, by kernel_rfl, rfl, rfl, rfl⟩, rfl, rfl⟩
theorem tk153 : OkT Tryz.prog 153 ty153 := ⟨Tryz.underlying153, ⟨Tryz.t153, by kernel_rfl, rfl, rfl, rfl⟩, rfl, rfl⟩
theorem tk154 : OkT Tryz.prog 154 ty154 := ⟨Tryz.underlying154, ⟨Tryz.t154, by kernel_rfl, rfl, rfl, rfl⟩, rfl, rfl⟩
theorem tk155 : OkT Tryz.prog 155 ty155 := ⟨Tryz.underlying155, ⟨Tryz.t155, by kernel_rfl, rfl, rfl, rfl⟩, rfl, rfl⟩
theorem tk156 : OkT Tryz.prog 156 ty156 := ⟨Tryz.underlying156, ⟨Tryz.t156, by kernel_rfl, rfl, rfl, rfl⟩, rfl, rfl⟩
theorem tk157 : OkT Tryz.prog 157 ty157 := ⟨Tryz.underlying157, ⟨Tryz.t157, by kernel_rfl, rfl, rfl, rfl⟩, rfl, rfl⟩
theorem tk158 : OkT Tryz.prog 158 ty158 := ⟨Tryz.underlying158, ⟨Tryz.t158, by kernel_rfl, rfl, rfl, rfl⟩, rfl, rfl⟩
theorem tk159 : OkT Tryz.prog 159 ty159 := ⟨Tryz.underlying159, ⟨Tryz.t159, by kernel_rfl, rfl, rfl, rfl⟩, rfl, rfl⟩
theorem tk160 : OkT Tryz.prog 160 ty160 := ⟨Tryz.underlying160, ⟨Tryz.t160, by kernel_rfl, rfl, rfl, rfl⟩, rfl, rfl⟩
theorem tk162 : OkT Tryz.prog 162 ty162 := ⟨Tryz.underlying162, ⟨Tryz.t162, by kernel_rfl, rfl, rfl, rfl⟩, rfl, rfl⟩
theorem tk163 : OkT Tryz.prog 163 ty163 := ⟨Tryz.underlying163, ⟨Tryz.t163, by kernel_rfl, rfl, rfl, rfl⟩, rfl, rfl⟩
theorem tk164 : OkT Tryz.prog 164 ty164 := ⟨Tryz.underlying164, ⟨Tryz.t164, by kernel_rfl, rfl, rfl, rfl⟩, rfl, rfl⟩
theorem tk165 : OkT Tryz.prog 165 ty165 := ⟨Tryz.underlying165, ⟨Tryz.t165, by kernel_rfl, rfl, rfl, rfl⟩, rfl, rfl⟩
theorem tk166 : OkT Tryz.prog 166 ty166 := ⟨Tryz.underlying166, ⟨Tryz.t166, by kernel_rfl, rfl, rfl, rfl⟩, rfl, rfl⟩
theorem tk167 : OkT Tryz.prog 167 ty167 := ⟨Tryz.underlying167, ⟨Tryz.t167, by kernel_rfl, rfl, rfl, rfl⟩, rfl, rfl⟩
theorem tk168 : OkT Tryz.prog 168 ty168 := ⟨Tryz.underlying168, ⟨Tryz.t168, by kernel_rfl, rfl, rfl, rfl⟩, rfl, rfl⟩
theorem tk169 : OkT Tryz.prog 169 ty169 := ⟨Tryz.underlying169, ⟨Tryz.t169, by kernel_rfl, rfl, rfl, rfl⟩, rfl, rfl⟩
theorem tk170 : OkT Tryz.prog 170 ty170 := ⟨Tryz.underlying170, ⟨Tryz.t170, by kernel_rfl, rfl, rfl, rfl⟩, rfl, rfl⟩
theorem tk171 : OkT Tryz.prog 171 ty171 := ⟨Tryz.underlying171, ⟨Tryz.t171, by kernel_rfl, rfl, rfl, rfl⟩, rfl, rfl⟩
theorem tk172 : OkT Tryz.prog 172 ty172 := ⟨Tryz.underlying172, ⟨Tryz.t172, by kernel_rfl, rfl, rfl, rfl⟩, rfl, rfl⟩
theorem tk173 : OkT Tryz.prog 173 ty173 := ⟨Tryz.underlying173, ⟨Tryz.t173, by kernel_rfl, rfl, rfl, rfl⟩, rfl, rfl⟩
theorem tk174 : OkT Tryz.prog 174 ty174 := ⟨Tryz.underlying174, ⟨Tryz.t174, by kernel_rfl, rfl, rfl, rfl⟩, rfl, rfl⟩
theorem tk175 : OkT Tryz.prog 175 ty175 := ⟨Tryz.underlying175, ⟨Tryz.t175, by kernel_rfl, rfl, rfl, rfl⟩, rfl, rfl⟩
theorem tk176 : OkT Tryz.prog 176 ty176 := ⟨Tryz.underlying176, ⟨Tryz.t176, by kernel_rfl, rfl, rfl, rfl⟩, rfl, rfl⟩
theorem tk177 : OkT Tryz.prog 177 ty177 := ⟨Tryz.underlying177, ⟨Tryz.t177, by kernel_rfl, rfl, rfl, rfl⟩, rfl, rfl⟩
theorem tk178 : OkT Tryz.prog 178 ty178 := ⟨Tryz.underlying178, ⟨Tryz.t178, by kernel_rfl, rfl, rfl, rfl⟩, rfl, rfl⟩
theorem tk179 : OkT Tryz.prog 179 ty179 := ⟨Tryz.underlying179, ⟨Tryz.t179, by kernel_rfl, rfl, rfl, rfl⟩, rfl, rfl⟩
theorem tk180 : OkT Tryz.prog 180 ty180 := ⟨Tryz.underlying180, ⟨Tryz.t180, by kernel_rfl, rfl, rfl, rfl⟩, rfl, rfl⟩
theorem tk181 : OkT Tryz.prog 181 ty181 := ⟨Tryz.underlying181, ⟨Tryz.t181, by kernel_rfl, rfl, rfl, rfl⟩, rfl, rfl⟩
theorem tk182 : OkT Tryz.prog 182 ty182 := ⟨Tryz.underlying182, ⟨Tryz.t182, by kernel_rfl, rfl, rfl, rfl⟩, rfl, rfl⟩
theorem tk183 : OkT Tryz.prog 183 ty183 := ⟨Tryz.underlying183, ⟨Tryz.t183, by kernel_rfl, rfl, rfl, rfl⟩, rfl, rfl⟩
theorem tk184 : OkT Tryz.prog 184 ty184 := ⟨Tryz.underlying184, ⟨Tryz.t184, by kernel_rfl, rfl, rfl, rfl⟩, rfl, rfl⟩
theorem tk185 : OkT Tryz.prog 185 ty185 := ⟨Tryz.underlying185, ⟨Tryz.t185, by kernel_rfl, rfl, rfl, rfl⟩, rfl, rfl⟩
theorem tk186 : OkT Tryz.prog 186 ty186 := ⟨Tryz.underlying186, ⟨Tryz.t186, by kernel_rfl, rfl, rfl, rfl⟩, rfl, rfl⟩
theorem tk187 : OkT Tryz.prog 187 ty187 := ⟨Tryz.underlying187, ⟨Tryz.t187, by kernel_rfl, rfl, rfl, rfl⟩, rfl, rfl⟩
theorem tk188 : OkT Tryz.prog 188 ty188 := ⟨Tryz.underlying188, ⟨Tryz.t188, by kernel_rfl, rfl, rfl, rfl⟩, rfl, rfl⟩
theorem tk189 : OkT Tryz.prog 189 ty189 := ⟨Tryz.underlying189, ⟨Tryz.t189, by kernel_rfl, rfl, rfl, rfl⟩, rfl, rfl⟩
theorem tk190 : OkT Tryz.prog 190 ty190 := ⟨Tryz.underlying190, ⟨Tryz.t190, by kernel_rfl, rfl, rfl, rfl⟩, rfl, rfl⟩
theorem tok : TOk Tryz.prog tt := fun t h => match t, h with
  | 0, _ => tk0
  | 1, _ => tk1
  | 2, _ => tk2
  | 3, _ => tk3
  | 4, _ => tk4
  | 5, _ => tk5
  | 6, _ => tk6
  | 7, _ => tk7
  | 8, _ => tk8
  | 9, _ => tk9
  | 10, _ => tk10
  | 11, _ => tk11
  | 12, _ => tk12
  | 13, _ => tk13
  | 14, _ => tk14
  | 15, _ => tk15
  | 16, _ => tk16
  | 17, _ => tk17
  | 18, _ => tk18
  | 19, _ => tk19
  | 20, _ => tk20
  | 21, _ => tk21
  | 22, _ => tk22
  | 23, _ => tk23
  | 24, _ => tk24
  | 25, _ => tk25
  | 26, _ => tk26
  | 27, _ => tk27
  | 28, _ => tk28
  | 29, _ => tk29
  | 30, _ => tk30
  | 31, _ => tk31
  | 32, _ => tk32
  | 33, _ => tk33
  | 34, _ => tk34
  | 35, _ => tk35
  | 36, _ => tk36
  | 37, _ => tk37
  | 38, _ => tk38
  | 39, _ => tk39
  | 40, _ => tk40
  | 41, _ => tk41
  | 42, _ => tk42
  | 43, _ => tk43
  | 44, _ => tk44
  | 45, _ => tk45
  | 46, _ => tk46
  | 47, _ => tk47
  | 48, _ => tk48
  | 49, _ => tk49
  | 50, _ => tk50
  | 51, _ => tk51
  | 52, _ => tk52
  | 53, _ => tk53
  | 54, _ => tk54
  | 55, _ => tk55
  | 56, _ => tk56
  | 57, _ => tk57
  | 58, _ => tk58
  | 59, _ => tk59
  | 60, _ => tk60
  | 61, _ => tk61
  | 62, _ => tk62
  | 63, _ => tk63
  | 64, _ => tk64
  | 65, _ => tk65
  | 66, _ => tk66
  | 67, _ => tk67
  | 68, _ => tk68
  | 69, _ => tk69
  | 70, _ => tk70
  | 71, _ => tk71
  | 72, _ => tk72
  | 73, _ => tk73
  | 74, _ => tk74
  | 75, _ => tk75
  | 76, _ => tk76
  | 77, _ => tk77
  | 78, _ => tk78
  | 79, _ => tk79
  | 80, _ => tk80
  | 81, _ => tk81
  | 82, _ => tk82
  | 83, _ => tk83
  | 84, _ => tk84
  | 85, _ => tk85
  | 86, _ => tk86
  | 87, _ => tk87
  | 88, _ => tk88
  | 89, _ => tk89
  | 90, _ => tk90
  | 91, _ => tk91
  | 92, _ => tk92
  | 93, _ => tk93
  | 94, _ => tk94
  | 95, _ => tk95
  | 96, _ => tk96
  | 97, _ => tk97
  | 98, _ => tk98
  | 99, _ => tk99
  | 100, _ => tk100
  | 101, _ => tk101
  | 102, _ => tk102
  | 103, _ => tk103
  | 104, _ => tk104
  | 105, _ => tk105
  | 106, _ => tk106
  | 107, _ => tk107
  | 108, _ => tk108
  | 109, _ => tk109
  | 110, _ => tk110
  | 111, _ => tk111
  | 112, _ => tk112
  | 113, _ => tk113
  | 114, _ => tk114
  | 115, _ => tk115
  | 116, _ => tk116
  | 117, _ => tk117
  | 118, _ => tk118
  | 119, _ => tk119
  | 120, _ => tk120
  | 121, _ => tk121
  | 122, _ => tk122
  | 123, _ => tk123
  | 124, _ => tk124
  | 125, _ => tk125
  | 126, _ => tk126
  | 127, _ => tk127
  | 128, _ => tk128
  | 129, _ => tk129
  | 130, _ => tk130
  | 131, _ => tk131
  | 132, _ => tk132
  | 133, _ => tk133
  | 134, _ => tk134
  | 135, _ => tk135
  | 136, _ => tk136
  | 137, _ => tk137
  | 138, _ => tk138
  | 139, _ => tk139
  | 140, _ => tk140
  | 141, _ => tk141
  | 142, _ => tk142
  | 143, _ => tk143
  | 144, _ => tk144
  | 145, _ => tk145
  | 146, _ => tk146
  | 147, _ => tk147
  | 148, _ => tk148
  | 149, _ => tk149
  | 150, _ => tk150
  | 151, _ => tk151
  | 152, _ => tk152
  | 153, _ => tk153
  | 154, _ => tk154
  | 155, _ => tk155
  | 156, _ => tk156
  | 157, _ => tk157
  | 158, _ => tk158
  | 159, _ => tk159
  | 160, _ => tk160
  | 161, h => by cases h
  | 162, _ => tk162
  | 163, _ => tk163
  | 164, _ => tk164
  | 165, _ => tk165
  | 166, _ => tk166
  | 167, _ => tk167
  | 168, _ => tk168
  | 169, _ => tk169
  | 170, _ => tk170
  | 171, _ => tk171
  | 172, _ => tk172
  | 173, _ => tk173
  | 174, _ => tk174
  | 175, _ => tk175
  | 176, _ => tk176
  | 177, _ => tk177
  | 178, _ => tk178
  | 179, _ => tk179
  | 180, _ => tk180
  | 181, _ => tk181
  | 182, _ => tk182
  | 183, _ => tk183
  | 184, _ => tk184
  | 185, _ => tk185
  | 186, _ => tk186
  | 187, _ => tk187
  | 188, _ => tk188
  | 189, _ => tk189
  | 190, _ => tk190
  | n + 191, h => by rw [show tt (n + 191) = badT from by rw [tt, List.getD_eq_getElem?_getD, List.getElem?_eq_none (by rw [show ttl.length = 191 from rfl]; exact Nat.le_add_left 191 n)]; rfl] at h; simp [badT] at h
theorem en9 : Go.Ax.Enters Tryz.prog 9 := Go.Ax.Enters.mk Tryz.func9 (by kernel_rfl) (by kernel_rfl)
theorem en10 : Go.Ax.Enters Tryz.prog 10 := Go.Ax.Enters.mk Tryz.func10 (by kernel_rfl) (by kernel_rfl)
theorem en11 : Go.Ax.Enters Tryz.prog 11 := Go.Ax.Enters.mk Tryz.func11 (by kernel_rfl) (by kernel_rfl)
theorem en12 : Go.Ax.Enters Tryz.prog 12 := Go.Ax.Enters.mk Tryz.func12 (by kernel_rfl) (by kernel_rfl)
theorem en13 : Go.Ax.Enters Tryz.prog 13 := Go.Ax.Enters.mk Tryz.func13 (by kernel_rfl) (by kernel_rfl)
theorem en14 : Go.Ax.Enters Tryz.prog 14 := Go.Ax.Enters.mk Tryz.func14 (by kernel_rfl) (by kernel_rfl)
theorem en15 : Go.Ax.Enters Tryz.prog 15 := Go.Ax.Enters.mk Tryz.func15 (by kernel_rfl) (by kernel_rfl)
theorem en16 : Go.Ax.Enters Tryz.prog 16 := Go.Ax.Enters.mk Tryz.func16 (by kernel_rfl) (by kernel_rfl)
theorem en18 : Go.Ax.Enters Tryz.prog 18 := Go.Ax.Enters.mk Tryz.func18 (by kernel_rfl) (by kernel_rfl)
theorem en19 : Go.Ax.Enters Tryz.prog 19 := Go.Ax.Enters.mk Tryz.func19 (by kernel_rfl) (by kernel_rfl)
theorem en20 : Go.Ax.Enters Tryz.prog 20 := Go.Ax.Enters.mk Tryz.func20 (by kernel_rfl) (by kernel_rfl)
theorem en21 : Go.Ax.Enters Tryz.prog 21 := Go.Ax.Enters.mk Tryz.func21 (by kernel_rfl) (by kernel_rfl)
theorem en22 : Go.Ax.Enters Tryz.prog 22 := Go.Ax.Enters.mk Tryz.func22 (by kernel_rfl) (by kernel_rfl)
theorem en23 : Go.Ax.Enters Tryz.prog 23 := Go.Ax.Enters.mk Tryz.func23 (by kernel_rfl) (by kernel_rfl)
theorem en24 : Go.Ax.Enters Tryz.prog 24 := Go.Ax.Enters.mk Tryz.func24 (by kernel_rfl) (by kernel_rfl)
theorem en25 : Go.Ax.Enters Tryz.prog 25 := Go.Ax.Enters.mk Tryz.func25 (by kernel_rfl) (by kernel_rfl)
theorem en26 : Go.Ax.Enters Tryz.prog 26 := Go.Ax.Enters.mk Tryz.func26 (by kernel_rfl) (by kernel_rfl)
theorem en27 : Go.Ax.Enters Tryz.prog 27 := Go.Ax.Enters.mk Tryz.func27 (by kernel_rfl) (by kernel_rfl)
theorem en28 : Go.Ax.Enters Tryz.prog 28 := Go.Ax.Enters.mk Tryz.func28 (by kernel_rfl) (by kernel_rfl)
theorem en29 : Go.Ax.Enters Tryz.prog 29 := Go.Ax.Enters.mk Tryz.func29 (by kernel_rfl) (by kernel_rfl)
theorem en30 : Go.Ax.Enters Tryz.prog 30 := Go.Ax.Enters.mk Tryz.func30 (by kernel_rfl) (by kernel_rfl)
theorem en31 : Go.Ax.Enters Tryz.prog 31 := Go.Ax.Enters.mk Tryz.func31 (by kernel_rfl) (by kernel_rfl)
theorem en32 : Go.Ax.Enters Tryz.prog 32 := Go.Ax.Enters.mk Tryz.func32 (by kernel_rfl) (by kernel_rfl)
theorem en33 : Go.Ax.Enters Tryz.prog 33 := Go.Ax.Enters.mk Tryz.func33 (by kernel_rfl) (by kernel_rfl)
theorem en34 : Go.Ax.Enters Tryz.prog 34 := Go.Ax.Enters.mk Tryz.func34 (by kernel_rfl) (by kernel_rfl)
theorem en35 : Go.Ax.Enters Tryz.prog 35 := Go.Ax.Enters.mk Tryz.func35 (by kernel_rfl) (by kernel_rfl)
theorem en36 : Go.Ax.Enters Tryz.prog 36 := Go.Ax.Enters.mk Tryz.func36 (by kernel_rfl) (by kernel_rfl)
theorem en37 : Go.Ax.Enters Tryz.prog 37 := Go.Ax.Enters.mk Tryz.func37 (by kernel_rfl) (by kernel_rfl)
theorem en38 : Go.Ax.Enters Tryz.prog 38 := Go.Ax.Enters.mk Tryz.func38 (by kernel_rfl) (by kernel_rfl)
theorem en39 : Go.Ax.Enters Tryz.prog 39 := Go.Ax.Enters.mk Tryz.func39 (by kernel_rfl) (by kernel_rfl)
theorem en40 : Go.Ax.Enters Tryz.prog 40 := Go.Ax.Enters.mk Tryz.func40 (by kernel_rfl) (by kernel_rfl)
theorem en41 : Go.Ax.Enters Tryz.prog 41 := Go.Ax.Enters.mk Tryz.func41 (by kernel_rfl) (by kernel_rfl)
theorem en42 : Go.Ax.Enters Tryz.prog 42 := Go.Ax.Enters.mk Tryz.func42 (by kernel_rfl) (by kernel_rfl)
theorem en43 : Go.Ax.Enters Tryz.prog 43 := Go.Ax.Enters.mk Tryz.func43 (by kernel_rfl) (by kernel_rfl)
theorem en45 : Go.Ax.Enters Tryz.prog 45 := Go.Ax.Enters.mk Tryz.func45 (by kernel_rfl) (by kernel_rfl)
theorem en46 : Go.Ax.Enters Tryz.prog 46 := Go.Ax.Enters.mk Tryz.func46 (by kernel_rfl) (by kernel_rfl)
theorem en47 : Go.Ax.Enters Tryz.prog 47 := Go.Ax.Enters.mk Tryz.func47 (by kernel_rfl) (by kernel_rfl)
theorem en48 : Go.Ax.Enters Tryz.prog 48 := Go.Ax.Enters.mk Tryz.func48 (by kernel_rfl) (by kernel_rfl)
theorem en49 : Go.Ax.Enters Tryz.prog 49 := Go.Ax.Enters.mk Tryz.func49 (by kernel_rfl) (by kernel_rfl)
theorem en50 : Go.Ax.Enters Tryz.prog 50 := Go.Ax.Enters.mk Tryz.func50 (by kernel_rfl) (by kernel_rfl)
theorem en51 : Go.Ax.Enters Tryz.prog 51 := Go.Ax.Enters.mk Tryz.func51 (by kernel_rfl) (by kernel_rfl)
theorem en52 : Go.Ax.Enters Tryz.prog 52 := Go.Ax.Enters.mk Tryz.func52 (by kernel_rfl) (by kernel_rfl)
theorem en55 : Go.Ax.Enters Tryz.prog 55 := Go.Ax.Enters.mk Tryz.func55 (by kernel_rfl) (by kernel_rfl)
theorem en56 : Go.Ax.Enters Tryz.prog 56 := Go.Ax.Enters.mk Tryz.func56 (by kernel_rfl) (by kernel_rfl)
theorem en57 : Go.Ax.Enters Tryz.prog 57 := Go.Ax.Enters.mk Tryz.func57 (by kernel_rfl) (by kernel_rfl)
theorem en58 : Go.Ax.Enters Tryz.prog 58 := Go.Ax.Enters.mk Tryz.func58 (by kernel_rfl) (by kernel_rfl)
theorem en61 : Go.Ax.Enters Tryz.prog 61 := Go.Ax.Enters.mk Tryz.func61 (by kernel_rfl) (by kernel_rfl)
theorem en62 : Go.Ax.Enters Tryz.prog 62 := Go.Ax.Enters.mk Tryz.func62 (by kernel_rfl) (by kernel_rfl)
theorem en63 : Go.Ax.Enters Tryz.prog 63 := Go.Ax.Enters.mk Tryz.func63 (by kernel_rfl) (by kernel_rfl)
theorem en66 : Go.Ax.Enters Tryz.prog 66 := Go.Ax.Enters.mk Tryz.func66 (by kernel_rfl) (by kernel_rfl)
theorem en82 : Go.Ax.Enters Tryz.prog 82 := Go.Ax.Enters.mk Tryz.func82 (by kernel_rfl) (by kernel_rfl)
theorem en84 : Go.Ax.Enters Tryz.prog 84 := Go.Ax.Enters.mk Tryz.func84 (by kernel_rfl) (by kernel_rfl)
theorem en85 : Go.Ax.Enters Tryz.prog 85 := Go.Ax.Enters.mk Tryz.func85 (by kernel_rfl) (by kernel_rfl)
theorem en86 : Go.Ax.Enters Tryz.prog 86 := Go.Ax.Enters.mk Tryz.func86 (by kernel_rfl) (by kernel_rfl)
theorem en102 : Go.Ax.Enters Tryz.prog 102 := Go.Ax.Enters.mk Tryz.func102 (by kernel_rfl) (by kernel_rfl)
theorem en105 : Go.Ax.Enters Tryz.prog 105 := Go.Ax.Enters.mk Tryz.func105 (by kernel_rfl) (by kernel_rfl)
theorem en122 : Go.Ax.Enters Tryz.prog 122 := Go.Ax.Enters.mk Tryz.func122 (by kernel_rfl) (by kernel_rfl)
theorem mixed : Tryz.prog.follows .mixedOrders = true := by kernel_rfl
end Go.Proofs.YtbcanlmpfhkklaaGreatDoor
