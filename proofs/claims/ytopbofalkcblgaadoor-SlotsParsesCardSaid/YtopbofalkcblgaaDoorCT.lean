/- What the layer asks of this program: its types as a table, its functions as called. Printed by seat.py. -/
import Derived.Lib.TrailingZeros
import Derived.Test.YtopbofalkcblgaaDoorChecked
import Derived.Test.YtopbofalkcblgaaDoorCE4
set_option linter.unusedSimpArgs false
set_option linter.unusedVariables false
namespace Go.Proofs.YtopbofalkcblgaaDoor
open Go.Ax
open Cel (c)

/-- What the listed variables hold: the table of bits, the two errors of strconv. -/
def tabs : Nat → Option (List AV)
  | 0 => some (Lib.deBruijn64tab.map fun n => .v (.int .u8 (n : Nat)))
  | 2 => some [.iface 107 .any]
  | 3 => some [.iface 107 .any]
  | _ => none
instance : Tabs := ⟨tabs⟩

def badT : TI := ⟨.invalid, false, 0, 0, .nilFunc, false⟩
def ty0 : TI := { und := TypeDesc.tuple #[], agg := false, size := 1, bytes := 0, zero := (Value.tuple #[]), ok := true }
def ty1 : TI := { und := TypeDesc.func #[] #[] false, agg := false, size := 1, bytes := 8, zero := Value.nilFunc, ok := true }
def ty2 : TI := { und := TypeDesc.int IntKind.i64, agg := false, size := 1, bytes := 8, zero := (Value.int IntKind.i64 0), ok := true }
def ty3 : TI := { und := TypeDesc.int IntKind.i64, agg := false, size := 1, bytes := 8, zero := (Value.int IntKind.i64 0), ok := true }
def ty4 : TI := { und := TypeDesc.bool, agg := false, size := 1, bytes := 1, zero := (Value.bool false), ok := true }
def ty5 : TI := { und := TypeDesc.int IntKind.u8, agg := false, size := 1, bytes := 1, zero := (Value.int IntKind.u8 0), ok := true }
def ty6 : TI := { und := TypeDesc.int IntKind.u8, agg := false, size := 1, bytes := 1, zero := (Value.int IntKind.u8 0), ok := true }
def ty7 : TI := { und := TypeDesc.struct #[{ name := "x", type := 2, offset := 0, embedded := false, tag := "", pkgPath := "runtime", byteOffset := 0 }, { name := "y", type := 3, offset := 1, embedded := false, tag := "", pkgPath := "runtime", byteOffset := 8 }, { name := "signed", type := 4, offset := 2, embedded := false, tag := "", pkgPath := "runtime", byteOffset := 16 }, { name := "code", type := 6, offset := 3, embedded := false, tag := "", pkgPath := "runtime", byteOffset := 17 }], agg := true, size := 4, bytes := 24, zero := (Value.agg #[Value.int IntKind.i64 0, Value.int IntKind.i64 0, Value.bool false, Value.int IntKind.u8 0]), ok := true }
def ty8 : TI := { und := TypeDesc.struct #[{ name := "x", type := 2, offset := 0, embedded := false, tag := "", pkgPath := "runtime", byteOffset := 0 }, { name := "y", type := 3, offset := 1, embedded := false, tag := "", pkgPath := "runtime", byteOffset := 8 }, { name := "signed", type := 4, offset := 2, embedded := false, tag := "", pkgPath := "runtime", byteOffset := 16 }, { name := "code", type := 6, offset := 3, embedded := false, tag := "", pkgPath := "runtime", byteOffset := 17 }], agg := true, size := 4, bytes := 24, zero := (Value.agg #[Value.int IntKind.i64 0, Value.int IntKind.i64 0, Value.bool false, Value.int IntKind.u8 0]), ok := true }
def ty9 : TI := { und := TypeDesc.string, agg := false, size := 1, bytes := 16, zero := (Value.string { data := #[] }), ok := true }
def ty10 : TI := { und := TypeDesc.string, agg := false, size := 1, bytes := 16, zero := (Value.string { data := #[] }), ok := true }
def ty11 : TI := { und := TypeDesc.string, agg := false, size := 1, bytes := 16, zero := (Value.string { data := #[] }), ok := true }
def ty12 : TI := { und := TypeDesc.int IntKind.u64, agg := false, size := 1, bytes := 8, zero := (Value.int IntKind.u64 0), ok := true }
def ty13 : TI := { und := TypeDesc.struct #[{ name := "msg", type := 9, offset := 0, embedded := false, tag := "", pkgPath := "runtime", byteOffset := 0 }, { name := "addr", type := 12, offset := 1, embedded := false, tag := "", pkgPath := "runtime", byteOffset := 16 }], agg := true, size := 2, bytes := 24, zero := (Value.agg #[Value.string { data := #[] }, Value.int IntKind.u64 0]), ok := true }
def ty14 : TI := { und := TypeDesc.struct #[{ name := "msg", type := 9, offset := 0, embedded := false, tag := "", pkgPath := "runtime", byteOffset := 0 }, { name := "addr", type := 12, offset := 1, embedded := false, tag := "", pkgPath := "runtime", byteOffset := 16 }], agg := true, size := 2, bytes := 24, zero := (Value.agg #[Value.string { data := #[] }, Value.int IntKind.u64 0]), ok := true }
def ty15 : TI := { und := TypeDesc.pointer 117, agg := false, size := 1, bytes := 8, zero := (Value.pointer none), ok := true }
def ty16 : TI := { und := TypeDesc.pointer 120, agg := false, size := 1, bytes := 8, zero := (Value.pointer none), ok := true }
def ty17 : TI := { und := TypeDesc.pointer 128, agg := false, size := 1, bytes := 8, zero := (Value.pointer none), ok := true }
def ty18 : TI := { und := TypeDesc.struct #[{ name := "typ", type := 17, offset := 0, embedded := false, tag := "", pkgPath := "internal/runtime/maps", byteOffset := 0 }], agg := true, size := 1, bytes := 8, zero := (Value.agg #[Value.pointer none]), ok := true }
def ty19 : TI := { und := TypeDesc.struct #[{ name := "typ", type := 17, offset := 0, embedded := false, tag := "", pkgPath := "internal/runtime/maps", byteOffset := 0 }], agg := true, size := 1, bytes := 8, zero := (Value.agg #[Value.pointer none]), ok := true }
def ty20 : TI := { und := TypeDesc.interface #[], agg := false, size := 1, bytes := 16, zero := Value.nilIface, ok := true }
def ty21 : TI := { und := TypeDesc.int IntKind.i32, agg := false, size := 1, bytes := 4, zero := (Value.int IntKind.i32 0), ok := true }
def ty22 : TI := { und := TypeDesc.int IntKind.u64, agg := false, size := 1, bytes := 8, zero := (Value.int IntKind.u64 0), ok := true }
def ty23 : TI := { und := TypeDesc.int IntKind.u64, agg := false, size := 1, bytes := 8, zero := (Value.int IntKind.u64 0), ok := true }
def ty24 : TI := { und := TypeDesc.func #[] #[4] false, agg := false, size := 1, bytes := 8, zero := Value.nilFunc, ok := true }
def ty25 : TI := { und := TypeDesc.int IntKind.i64, agg := false, size := 1, bytes := 8, zero := (Value.int IntKind.i64 0), ok := true }
def ty26 : TI := { und := TypeDesc.tuple #[23, 25], agg := false, size := 1, bytes := 0, zero := (Value.tuple #[Value.int IntKind.u64 0, Value.int IntKind.i64 0]), ok := true }
def ty27 : TI := { und := TypeDesc.func #[9] #[23, 25] false, agg := false, size := 1, bytes := 8, zero := Value.nilFunc, ok := true }
def ty28 : TI := { und := TypeDesc.func #[] #[9] false, agg := false, size := 1, bytes := 8, zero := Value.nilFunc, ok := true }
def ty29 : TI := { und := TypeDesc.func #[30] #[9] false, agg := false, size := 1, bytes := 8, zero := Value.nilFunc, ok := true }
def ty30 : TI := { und := TypeDesc.array 64 4, agg := true, size := 64, bytes := 64, zero := (Value.agg #[Value.bool false, Value.bool false, Value.bool false, Value.bool false, Value.bool false, Value.bool false, Value.bool false, Value.bool false, Value.bool false, Value.bool false, Value.bool false, Value.bool false, Value.bool false, Value.bool false, Value.bool false, Value.bool false, Value.bool false, Value.bool false, Value.bool false, Value.bool false, Value.bool false, Value.bool false, Value.bool false, Value.bool false, Value.bool false, Value.bool false, Value.bool false, Value.bool false, Value.bool false, Value.bool false, Value.bool false, Value.bool false, Value.bool false, Value.bool false, Value.bool false, Value.bool false, Value.bool false, Value.bool false, Value.bool false, Value.bool false, Value.bool false, Value.bool false, Value.bool false, Value.bool false, Value.bool false, Value.bool false, Value.bool false, Value.bool false, Value.bool false, Value.bool false, Value.bool false, Value.bool false, Value.bool false, Value.bool false, Value.bool false, Value.bool false, Value.bool false, Value.bool false, Value.bool false, Value.bool false, Value.bool false, Value.bool false, Value.bool false, Value.bool false]), ok := true }
def ty31 : TI := { und := TypeDesc.func #[22] #[30] false, agg := false, size := 1, bytes := 8, zero := Value.nilFunc, ok := true }
def ty32 : TI := { und := TypeDesc.func #[23] #[4] false, agg := false, size := 1, bytes := 8, zero := Value.nilFunc, ok := true }
def ty33 : TI := { und := TypeDesc.tuple #[30, 4], agg := false, size := 1, bytes := 0, zero := (Value.tuple #[Value.agg #[Value.bool false, Value.bool false, Value.bool false, Value.bool false, Value.bool false, Value.bool false, Value.bool false, Value.bool false, Value.bool false, Value.bool false, Value.bool false, Value.bool false, Value.bool false, Value.bool false, Value.bool false, Value.bool false, Value.bool false, Value.bool false, Value.bool false, Value.bool false, Value.bool false, Value.bool false, Value.bool false, Value.bool false, Value.bool false, Value.bool false, Value.bool false, Value.bool false, Value.bool false, Value.bool false, Value.bool false, Value.bool false, Value.bool false, Value.bool false, Value.bool false, Value.bool false, Value.bool false, Value.bool false, Value.bool false, Value.bool false, Value.bool false, Value.bool false, Value.bool false, Value.bool false, Value.bool false, Value.bool false, Value.bool false, Value.bool false, Value.bool false, Value.bool false, Value.bool false, Value.bool false, Value.bool false, Value.bool false, Value.bool false, Value.bool false, Value.bool false, Value.bool false, Value.bool false, Value.bool false, Value.bool false, Value.bool false, Value.bool false, Value.bool false], Value.bool false]), ok := true }
def ty34 : TI := { und := TypeDesc.func #[9] #[30, 4] false, agg := false, size := 1, bytes := 8, zero := Value.nilFunc, ok := true }
def ty35 : TI := { und := TypeDesc.func #[30] #[22] false, agg := false, size := 1, bytes := 8, zero := Value.nilFunc, ok := true }
def ty36 : TI := { und := TypeDesc.func #[9] #[4] false, agg := false, size := 1, bytes := 8, zero := Value.nilFunc, ok := true }
def ty37 : TI := { und := TypeDesc.func #[41] #[23, 25] true, agg := false, size := 1, bytes := 8, zero := Value.nilFunc, ok := true }
def ty38 : TI := { und := TypeDesc.func #[3, 3] #[23, 9] false, agg := false, size := 1, bytes := 8, zero := Value.nilFunc, ok := true }
def ty39 : TI := { und := TypeDesc.tuple #[23, 9], agg := false, size := 1, bytes := 0, zero := (Value.tuple #[Value.int IntKind.u64 0, Value.string { data := #[] }]), ok := true }
def ty40 : TI := { und := TypeDesc.func #[3, 3, 3, 3] #[4] false, agg := false, size := 1, bytes := 8, zero := Value.nilFunc, ok := true }
def ty41 : TI := { und := TypeDesc.slice 3, agg := false, size := 1, bytes := 24, zero := (Value.slice none 0 0), ok := true }
def ty42 : TI := { und := TypeDesc.func #[3] #[4] false, agg := false, size := 1, bytes := 8, zero := Value.nilFunc, ok := true }
def ty43 : TI := { und := TypeDesc.func #[] #[41] false, agg := false, size := 1, bytes := 8, zero := Value.nilFunc, ok := true }
def ty44 : TI := { und := TypeDesc.func #[41, 3] #[4] false, agg := false, size := 1, bytes := 8, zero := Value.nilFunc, ok := true }
def ty45 : TI := { und := TypeDesc.func #[3, 3] #[23, 25] false, agg := false, size := 1, bytes := 8, zero := Value.nilFunc, ok := true }
def ty46 : TI := { und := TypeDesc.func #[3, 3] #[4] false, agg := false, size := 1, bytes := 8, zero := Value.nilFunc, ok := true }
def ty47 : TI := { und := TypeDesc.func #[41, 41] #[4] false, agg := false, size := 1, bytes := 8, zero := Value.nilFunc, ok := true }
def ty48 : TI := { und := TypeDesc.slice 9, agg := false, size := 1, bytes := 24, zero := (Value.slice none 0 0), ok := true }
def ty49 : TI := { und := TypeDesc.func #[23, 23] #[4] false, agg := false, size := 1, bytes := 8, zero := Value.nilFunc, ok := true }
def ty50 : TI := { und := TypeDesc.func #[36] #[] false, agg := false, size := 1, bytes := 8, zero := Value.nilFunc, ok := true }
def ty51 : TI := { und := TypeDesc.func #[36] #[] false, agg := false, size := 1, bytes := 8, zero := Value.nilFunc, ok := true }
def ty52 : TI := { und := TypeDesc.func #[9, 9] #[51] false, agg := false, size := 1, bytes := 8, zero := Value.nilFunc, ok := true }
def ty53 : TI := { und := TypeDesc.tuple #[9, 9, 4], agg := false, size := 1, bytes := 0, zero := (Value.tuple #[Value.string { data := #[] }, Value.string { data := #[] }, Value.bool false]), ok := true }
def ty54 : TI := { und := TypeDesc.func #[9, 9] #[9, 9, 4] false, agg := false, size := 1, bytes := 8, zero := Value.nilFunc, ok := true }
def ty55 : TI := { und := TypeDesc.interface #[("Error", 28)], agg := false, size := 1, bytes := 16, zero := Value.nilIface, ok := true }
def ty56 : TI := { und := TypeDesc.interface #[("Error", 28)], agg := false, size := 1, bytes := 16, zero := Value.nilIface, ok := true }
def ty57 : TI := { und := TypeDesc.tuple #[3, 56], agg := false, size := 1, bytes := 0, zero := (Value.tuple #[Value.int IntKind.i64 0, Value.nilIface]), ok := true }
def ty58 : TI := { und := TypeDesc.func #[9] #[3, 56] false, agg := false, size := 1, bytes := 8, zero := Value.nilFunc, ok := true }
def ty59 : TI := { und := TypeDesc.func #[3] #[9] false, agg := false, size := 1, bytes := 8, zero := Value.nilFunc, ok := true }
def ty60 : TI := { und := TypeDesc.func #[48, 9] #[9] false, agg := false, size := 1, bytes := 8, zero := Value.nilFunc, ok := true }
def ty61 : TI := { und := TypeDesc.tuple #[3, 3], agg := false, size := 1, bytes := 0, zero := (Value.tuple #[Value.int IntKind.i64 0, Value.int IntKind.i64 0]), ok := true }
def ty62 : TI := { und := TypeDesc.func #[9, 3] #[3, 3] false, agg := false, size := 1, bytes := 8, zero := Value.nilFunc, ok := true }
def ty63 : TI := { und := TypeDesc.func #[22] #[3] false, agg := false, size := 1, bytes := 8, zero := Value.nilFunc, ok := true }
def ty64 : TI := { und := TypeDesc.func #[9, 9, 3] #[51] false, agg := false, size := 1, bytes := 8, zero := Value.nilFunc, ok := true }
def ty65 : TI := { und := TypeDesc.func #[9, 9, 3, 3, 56] #[56] false, agg := false, size := 1, bytes := 8, zero := Value.nilFunc, ok := true }
def ty66 : TI := { und := TypeDesc.pointer 69, agg := false, size := 1, bytes := 8, zero := (Value.pointer none), ok := true }
def ty67 : TI := { und := TypeDesc.slice 5, agg := false, size := 1, bytes := 24, zero := (Value.slice none 0 0), ok := true }
def ty68 : TI := { und := TypeDesc.struct #[{ name := "addr", type := 66, offset := 0, embedded := false, tag := "", pkgPath := "strings", byteOffset := 0 }, { name := "buf", type := 67, offset := 1, embedded := false, tag := "", pkgPath := "strings", byteOffset := 8 }], agg := true, size := 2, bytes := 32, zero := (Value.agg #[Value.pointer none, Value.slice none 0 0]), ok := true }
def ty69 : TI := { und := TypeDesc.struct #[{ name := "addr", type := 66, offset := 0, embedded := false, tag := "", pkgPath := "strings", byteOffset := 0 }, { name := "buf", type := 67, offset := 1, embedded := false, tag := "", pkgPath := "strings", byteOffset := 8 }], agg := true, size := 2, bytes := 32, zero := (Value.agg #[Value.pointer none, Value.slice none 0 0]), ok := true }
def ty70 : TI := { und := TypeDesc.func #[3] #[] false, agg := false, size := 1, bytes := 8, zero := Value.nilFunc, ok := true }
def ty71 : TI := { und := TypeDesc.array 64 5, agg := true, size := 64, bytes := 64, zero := (Value.agg #[Value.int IntKind.u8 0, Value.int IntKind.u8 0, Value.int IntKind.u8 0, Value.int IntKind.u8 0, Value.int IntKind.u8 0, Value.int IntKind.u8 0, Value.int IntKind.u8 0, Value.int IntKind.u8 0, Value.int IntKind.u8 0, Value.int IntKind.u8 0, Value.int IntKind.u8 0, Value.int IntKind.u8 0, Value.int IntKind.u8 0, Value.int IntKind.u8 0, Value.int IntKind.u8 0, Value.int IntKind.u8 0, Value.int IntKind.u8 0, Value.int IntKind.u8 0, Value.int IntKind.u8 0, Value.int IntKind.u8 0, Value.int IntKind.u8 0, Value.int IntKind.u8 0, Value.int IntKind.u8 0, Value.int IntKind.u8 0, Value.int IntKind.u8 0, Value.int IntKind.u8 0, Value.int IntKind.u8 0, Value.int IntKind.u8 0, Value.int IntKind.u8 0, Value.int IntKind.u8 0, Value.int IntKind.u8 0, Value.int IntKind.u8 0, Value.int IntKind.u8 0, Value.int IntKind.u8 0, Value.int IntKind.u8 0, Value.int IntKind.u8 0, Value.int IntKind.u8 0, Value.int IntKind.u8 0, Value.int IntKind.u8 0, Value.int IntKind.u8 0, Value.int IntKind.u8 0, Value.int IntKind.u8 0, Value.int IntKind.u8 0, Value.int IntKind.u8 0, Value.int IntKind.u8 0, Value.int IntKind.u8 0, Value.int IntKind.u8 0, Value.int IntKind.u8 0, Value.int IntKind.u8 0, Value.int IntKind.u8 0, Value.int IntKind.u8 0, Value.int IntKind.u8 0, Value.int IntKind.u8 0, Value.int IntKind.u8 0, Value.int IntKind.u8 0, Value.int IntKind.u8 0, Value.int IntKind.u8 0, Value.int IntKind.u8 0, Value.int IntKind.u8 0, Value.int IntKind.u8 0, Value.int IntKind.u8 0, Value.int IntKind.u8 0, Value.int IntKind.u8 0, Value.int IntKind.u8 0]), ok := true }
def ty72 : TI := { und := TypeDesc.int IntKind.u64, agg := false, size := 1, bytes := 8, zero := (Value.int IntKind.u64 0), ok := true }
def ty73 : TI := { und := TypeDesc.tuple #[21, 3], agg := false, size := 1, bytes := 0, zero := (Value.tuple #[Value.int IntKind.i32 0, Value.int IntKind.i64 0]), ok := true }
def ty74 : TI := { und := TypeDesc.func #[9] #[21, 3] false, agg := false, size := 1, bytes := 8, zero := Value.nilFunc, ok := true }
def ty75 : TI := { und := TypeDesc.func #[9, 9] #[3] false, agg := false, size := 1, bytes := 8, zero := Value.nilFunc, ok := true }
def ty76 : TI := { und := TypeDesc.int IntKind.i64, agg := false, size := 1, bytes := 8, zero := (Value.int IntKind.i64 0), ok := true }
def ty77 : TI := { und := TypeDesc.tuple #[2, 56], agg := false, size := 1, bytes := 0, zero := (Value.tuple #[Value.int IntKind.i64 0, Value.nilIface]), ok := true }
def ty78 : TI := { und := TypeDesc.func #[9, 3, 3] #[2, 56] false, agg := false, size := 1, bytes := 8, zero := Value.nilFunc, ok := true }
def ty79 : TI := { und := TypeDesc.pointer 90, agg := false, size := 1, bytes := 8, zero := (Value.pointer none), ok := true }
def ty80 : TI := { und := TypeDesc.func #[9, 9] #[79] false, agg := false, size := 1, bytes := 8, zero := Value.nilFunc, ok := true }
def ty81 : TI := { und := TypeDesc.func #[9, 9, 3] #[79] false, agg := false, size := 1, bytes := 8, zero := Value.nilFunc, ok := true }
def ty82 : TI := { und := TypeDesc.func #[2, 3] #[9] false, agg := false, size := 1, bytes := 8, zero := Value.nilFunc, ok := true }
def ty83 : TI := { und := TypeDesc.pointer 5, agg := false, size := 1, bytes := 8, zero := (Value.pointer none), ok := true }
def ty84 : TI := { und := TypeDesc.func #[9, 5] #[3] false, agg := false, size := 1, bytes := 8, zero := Value.nilFunc, ok := true }
def ty85 : TI := { und := TypeDesc.func #[3] #[3] false, agg := false, size := 1, bytes := 8, zero := Value.nilFunc, ok := true }
def ty86 : TI := { und := TypeDesc.tuple #[22, 56], agg := false, size := 1, bytes := 0, zero := (Value.tuple #[Value.int IntKind.u64 0, Value.nilIface]), ok := true }
def ty87 : TI := { und := TypeDesc.func #[9, 3, 3] #[22, 56] false, agg := false, size := 1, bytes := 8, zero := Value.nilFunc, ok := true }
def ty88 : TI := { und := TypeDesc.func #[9] #[9] false, agg := false, size := 1, bytes := 8, zero := Value.nilFunc, ok := true }
def ty89 : TI := { und := TypeDesc.struct #[{ name := "Func", type := 9, offset := 0, embedded := false, tag := "", pkgPath := "", byteOffset := 0 }, { name := "Num", type := 9, offset := 1, embedded := false, tag := "", pkgPath := "", byteOffset := 16 }, { name := "Err", type := 56, offset := 2, embedded := false, tag := "", pkgPath := "", byteOffset := 32 }], agg := true, size := 3, bytes := 48, zero := (Value.agg #[Value.string { data := #[] }, Value.string { data := #[] }, Value.nilIface]), ok := true }
def ty90 : TI := { und := TypeDesc.struct #[{ name := "Func", type := 9, offset := 0, embedded := false, tag := "", pkgPath := "", byteOffset := 0 }, { name := "Num", type := 9, offset := 1, embedded := false, tag := "", pkgPath := "", byteOffset := 16 }, { name := "Err", type := 56, offset := 2, embedded := false, tag := "", pkgPath := "", byteOffset := 32 }], agg := true, size := 3, bytes := 48, zero := (Value.agg #[Value.string { data := #[] }, Value.string { data := #[] }, Value.nilIface]), ok := true }
def ty91 : TI := { und := TypeDesc.func #[9] #[56] false, agg := false, size := 1, bytes := 8, zero := Value.nilFunc, ok := true }
def ty92 : TI := { und := TypeDesc.array 24 5, agg := true, size := 24, bytes := 24, zero := (Value.agg #[Value.int IntKind.u8 0, Value.int IntKind.u8 0, Value.int IntKind.u8 0, Value.int IntKind.u8 0, Value.int IntKind.u8 0, Value.int IntKind.u8 0, Value.int IntKind.u8 0, Value.int IntKind.u8 0, Value.int IntKind.u8 0, Value.int IntKind.u8 0, Value.int IntKind.u8 0, Value.int IntKind.u8 0, Value.int IntKind.u8 0, Value.int IntKind.u8 0, Value.int IntKind.u8 0, Value.int IntKind.u8 0, Value.int IntKind.u8 0, Value.int IntKind.u8 0, Value.int IntKind.u8 0, Value.int IntKind.u8 0, Value.int IntKind.u8 0, Value.int IntKind.u8 0, Value.int IntKind.u8 0, Value.int IntKind.u8 0]), ok := true }
def ty93 : TI := { und := TypeDesc.func #[67, 22] #[] false, agg := false, size := 1, bytes := 8, zero := Value.nilFunc, ok := true }
def ty94 : TI := { und := TypeDesc.tuple #[67, 9], agg := false, size := 1, bytes := 0, zero := (Value.tuple #[Value.slice none 0 0, Value.string { data := #[] }]), ok := true }
def ty95 : TI := { und := TypeDesc.func #[67, 22, 3, 4, 4] #[67, 9] false, agg := false, size := 1, bytes := 8, zero := Value.nilFunc, ok := true }
def ty96 : TI := { und := TypeDesc.unsafePointer, agg := false, size := 1, bytes := 8, zero := (Value.pointer none), ok := true }
def ty97 : TI := { und := TypeDesc.func #[96] #[96] false, agg := false, size := 1, bytes := 8, zero := Value.nilFunc, ok := true }
def ty98 : TI := { und := TypeDesc.func #[3] #[67] false, agg := false, size := 1, bytes := 8, zero := Value.nilFunc, ok := true }
def ty99 : TI := badT
def ty100 : TI := { und := TypeDesc.struct #[{ name := "lo", type := 5, offset := 0, embedded := false, tag := "", pkgPath := "unicode/utf8", byteOffset := 0 }, { name := "hi", type := 5, offset := 1, embedded := false, tag := "", pkgPath := "unicode/utf8", byteOffset := 1 }], agg := true, size := 2, bytes := 2, zero := (Value.agg #[Value.int IntKind.u8 0, Value.int IntKind.u8 0]), ok := true }
def ty101 : TI := { und := TypeDesc.struct #[{ name := "lo", type := 5, offset := 0, embedded := false, tag := "", pkgPath := "unicode/utf8", byteOffset := 0 }, { name := "hi", type := 5, offset := 1, embedded := false, tag := "", pkgPath := "unicode/utf8", byteOffset := 1 }], agg := true, size := 2, bytes := 2, zero := (Value.agg #[Value.int IntKind.u8 0, Value.int IntKind.u8 0]), ok := true }
def ty102 : TI := { und := TypeDesc.array 16 101, agg := true, size := 32, bytes := 32, zero := (Value.agg #[Value.int IntKind.u8 0, Value.int IntKind.u8 0, Value.int IntKind.u8 0, Value.int IntKind.u8 0, Value.int IntKind.u8 0, Value.int IntKind.u8 0, Value.int IntKind.u8 0, Value.int IntKind.u8 0, Value.int IntKind.u8 0, Value.int IntKind.u8 0, Value.int IntKind.u8 0, Value.int IntKind.u8 0, Value.int IntKind.u8 0, Value.int IntKind.u8 0, Value.int IntKind.u8 0, Value.int IntKind.u8 0, Value.int IntKind.u8 0, Value.int IntKind.u8 0, Value.int IntKind.u8 0, Value.int IntKind.u8 0, Value.int IntKind.u8 0, Value.int IntKind.u8 0, Value.int IntKind.u8 0, Value.int IntKind.u8 0, Value.int IntKind.u8 0, Value.int IntKind.u8 0, Value.int IntKind.u8 0, Value.int IntKind.u8 0, Value.int IntKind.u8 0, Value.int IntKind.u8 0, Value.int IntKind.u8 0, Value.int IntKind.u8 0]), ok := true }
def ty103 : TI := { und := TypeDesc.int IntKind.u32, agg := false, size := 1, bytes := 4, zero := (Value.int IntKind.u32 0), ok := true }
def ty104 : TI := { und := TypeDesc.tuple #[103, 103], agg := false, size := 1, bytes := 0, zero := (Value.tuple #[Value.int IntKind.u32 0, Value.int IntKind.u32 0]), ok := true }
def ty105 : TI := { und := TypeDesc.func #[9] #[103, 103] false, agg := false, size := 1, bytes := 8, zero := Value.nilFunc, ok := true }
def ty106 : TI := { und := TypeDesc.func #[5] #[5] false, agg := false, size := 1, bytes := 8, zero := Value.nilFunc, ok := true }
def ty107 : TI := { und := TypeDesc.pointer 109, agg := false, size := 1, bytes := 8, zero := (Value.pointer none), ok := true }
def ty108 : TI := { und := TypeDesc.struct #[{ name := "s", type := 9, offset := 0, embedded := false, tag := "", pkgPath := "errors", byteOffset := 0 }], agg := true, size := 1, bytes := 16, zero := (Value.agg #[Value.string { data := #[] }]), ok := true }
def ty109 : TI := { und := TypeDesc.struct #[{ name := "s", type := 9, offset := 0, embedded := false, tag := "", pkgPath := "errors", byteOffset := 0 }], agg := true, size := 1, bytes := 16, zero := (Value.agg #[Value.string { data := #[] }]), ok := true }
def ty110 : TI := { und := TypeDesc.func #[4] #[3] false, agg := false, size := 1, bytes := 8, zero := Value.nilFunc, ok := true }
def ty111 : TI := { und := TypeDesc.array 20 22, agg := true, size := 20, bytes := 160, zero := (Value.agg #[Value.int IntKind.u64 0, Value.int IntKind.u64 0, Value.int IntKind.u64 0, Value.int IntKind.u64 0, Value.int IntKind.u64 0, Value.int IntKind.u64 0, Value.int IntKind.u64 0, Value.int IntKind.u64 0, Value.int IntKind.u64 0, Value.int IntKind.u64 0, Value.int IntKind.u64 0, Value.int IntKind.u64 0, Value.int IntKind.u64 0, Value.int IntKind.u64 0, Value.int IntKind.u64 0, Value.int IntKind.u64 0, Value.int IntKind.u64 0, Value.int IntKind.u64 0, Value.int IntKind.u64 0, Value.int IntKind.u64 0]), ok := true }
def ty112 : TI := { und := TypeDesc.array 65 5, agg := true, size := 65, bytes := 65, zero := (Value.agg ([Value.int IntKind.u8 0, Value.int IntKind.u8 0, Value.int IntKind.u8 0, Value.int IntKind.u8 0, Value.int IntKind.u8 0, Value.int IntKind.u8 0, Value.int IntKind.u8 0, Value.int IntKind.u8 0, Value.int IntKind.u8 0, Value.int IntKind.u8 0, Value.int IntKind.u8 0, Value.int IntKind.u8 0, Value.int IntKind.u8 0, Value.int IntKind.u8 0, Value.int IntKind.u8 0, Value.int IntKind.u8 0, Value.int IntKind.u8 0, Value.int IntKind.u8 0, Value.int IntKind.u8 0, Value.int IntKind.u8 0, Value.int IntKind.u8 0, Value.int IntKind.u8 0, Value.int IntKind.u8 0, Value.int IntKind.u8 0, Value.int IntKind.u8 0, Value.int IntKind.u8 0, Value.int IntKind.u8 0, Value.int IntKind.u8 0, Value.int IntKind.u8 0, Value.int IntKind.u8 0, Value.int IntKind.u8 0, Value.int IntKind.u8 0].append [Value.int IntKind.u8 0, Value.int IntKind.u8 0, Value.int IntKind.u8 0, Value.int IntKind.u8 0, Value.int IntKind.u8 0, Value.int IntKind.u8 0, Value.int IntKind.u8 0, Value.int IntKind.u8 0, Value.int IntKind.u8 0, Value.int IntKind.u8 0, Value.int IntKind.u8 0, Value.int IntKind.u8 0, Value.int IntKind.u8 0, Value.int IntKind.u8 0, Value.int IntKind.u8 0, Value.int IntKind.u8 0, Value.int IntKind.u8 0, Value.int IntKind.u8 0, Value.int IntKind.u8 0, Value.int IntKind.u8 0, Value.int IntKind.u8 0, Value.int IntKind.u8 0, Value.int IntKind.u8 0, Value.int IntKind.u8 0, Value.int IntKind.u8 0, Value.int IntKind.u8 0, Value.int IntKind.u8 0, Value.int IntKind.u8 0, Value.int IntKind.u8 0, Value.int IntKind.u8 0, Value.int IntKind.u8 0, Value.int IntKind.u8 0, Value.int IntKind.u8 0]).toArray), ok := true }
def ty113 : TI := { und := TypeDesc.func #[72] #[3] false, agg := false, size := 1, bytes := 8, zero := Value.nilFunc, ok := true }
def ty114 : TI := { und := TypeDesc.func #[103] #[3] false, agg := false, size := 1, bytes := 8, zero := Value.nilFunc, ok := true }
def ty115 : TI := { und := TypeDesc.array 32 5, agg := true, size := 32, bytes := 32, zero := (Value.agg #[Value.int IntKind.u8 0, Value.int IntKind.u8 0, Value.int IntKind.u8 0, Value.int IntKind.u8 0, Value.int IntKind.u8 0, Value.int IntKind.u8 0, Value.int IntKind.u8 0, Value.int IntKind.u8 0, Value.int IntKind.u8 0, Value.int IntKind.u8 0, Value.int IntKind.u8 0, Value.int IntKind.u8 0, Value.int IntKind.u8 0, Value.int IntKind.u8 0, Value.int IntKind.u8 0, Value.int IntKind.u8 0, Value.int IntKind.u8 0, Value.int IntKind.u8 0, Value.int IntKind.u8 0, Value.int IntKind.u8 0, Value.int IntKind.u8 0, Value.int IntKind.u8 0, Value.int IntKind.u8 0, Value.int IntKind.u8 0, Value.int IntKind.u8 0, Value.int IntKind.u8 0, Value.int IntKind.u8 0, Value.int IntKind.u8 0, Value.int IntKind.u8 0, Value.int IntKind.u8 0, Value.int IntKind.u8 0, Value.int IntKind.u8 0]), ok := true }
def ty116 : TI := { und := TypeDesc.struct #[{ name := "_interface", type := 17, offset := 0, embedded := false, tag := "", pkgPath := "runtime", byteOffset := 0 }, { name := "concrete", type := 17, offset := 1, embedded := false, tag := "", pkgPath := "runtime", byteOffset := 8 }, { name := "asserted", type := 17, offset := 2, embedded := false, tag := "", pkgPath := "runtime", byteOffset := 16 }, { name := "missingMethod", type := 9, offset := 3, embedded := false, tag := "", pkgPath := "runtime", byteOffset := 24 }], agg := true, size := 4, bytes := 40, zero := (Value.agg #[Value.pointer none, Value.pointer none, Value.pointer none, Value.string { data := #[] }]), ok := true }
def ty117 : TI := { und := TypeDesc.struct #[{ name := "_interface", type := 17, offset := 0, embedded := false, tag := "", pkgPath := "runtime", byteOffset := 0 }, { name := "concrete", type := 17, offset := 1, embedded := false, tag := "", pkgPath := "runtime", byteOffset := 8 }, { name := "asserted", type := 17, offset := 2, embedded := false, tag := "", pkgPath := "runtime", byteOffset := 16 }, { name := "missingMethod", type := 9, offset := 3, embedded := false, tag := "", pkgPath := "runtime", byteOffset := 24 }], agg := true, size := 4, bytes := 40, zero := (Value.agg #[Value.pointer none, Value.pointer none, Value.pointer none, Value.string { data := #[] }]), ok := true }
def ty118 : TI := { und := TypeDesc.array 0 16, agg := true, size := 0, bytes := 0, zero := (Value.agg #[]), ok := true }
def ty119 : TI := { und := TypeDesc.struct #[{ name := "_", type := 118, offset := 0, embedded := false, tag := "", pkgPath := "runtime", byteOffset := 0 }], agg := true, size := 0, bytes := 0, zero := (Value.agg #[]), ok := true }
def ty120 : TI := { und := TypeDesc.struct #[{ name := "_", type := 118, offset := 0, embedded := false, tag := "", pkgPath := "runtime", byteOffset := 0 }], agg := true, size := 0, bytes := 0, zero := (Value.agg #[]), ok := true }
def ty121 : TI := { und := TypeDesc.func #[] #[3] false, agg := false, size := 1, bytes := 8, zero := Value.nilFunc, ok := true }
def ty122 : TI := { und := TypeDesc.int IntKind.u8, agg := false, size := 1, bytes := 1, zero := (Value.int IntKind.u8 0), ok := true }
def ty123 : TI := { und := TypeDesc.int IntKind.u8, agg := false, size := 1, bytes := 1, zero := (Value.int IntKind.u8 0), ok := true }
def ty124 : TI := { und := TypeDesc.func #[96, 96] #[4] false, agg := false, size := 1, bytes := 8, zero := Value.nilFunc, ok := true }
def ty125 : TI := { und := TypeDesc.int IntKind.i32, agg := false, size := 1, bytes := 4, zero := (Value.int IntKind.i32 0), ok := true }
def ty126 : TI := { und := TypeDesc.int IntKind.i32, agg := false, size := 1, bytes := 4, zero := (Value.int IntKind.i32 0), ok := true }
def ty127 : TI := { und := TypeDesc.struct #[{ name := "Size_", type := 12, offset := 0, embedded := false, tag := "", pkgPath := "", byteOffset := 0 }, { name := "PtrBytes", type := 12, offset := 1, embedded := false, tag := "", pkgPath := "", byteOffset := 8 }, { name := "Hash", type := 103, offset := 2, embedded := false, tag := "", pkgPath := "", byteOffset := 16 }, { name := "TFlag", type := 122, offset := 3, embedded := false, tag := "", pkgPath := "", byteOffset := 20 }, { name := "Align_", type := 5, offset := 4, embedded := false, tag := "", pkgPath := "", byteOffset := 21 }, { name := "FieldAlign_", type := 5, offset := 5, embedded := false, tag := "", pkgPath := "", byteOffset := 22 }, { name := "Kind_", type := 123, offset := 6, embedded := false, tag := "", pkgPath := "", byteOffset := 23 }, { name := "Equal", type := 124, offset := 7, embedded := false, tag := "", pkgPath := "", byteOffset := 24 }, { name := "GCData", type := 83, offset := 8, embedded := false, tag := "", pkgPath := "", byteOffset := 32 }, { name := "Str", type := 125, offset := 9, embedded := false, tag := "", pkgPath := "", byteOffset := 40 }, { name := "PtrToThis", type := 126, offset := 10, embedded := false, tag := "", pkgPath := "", byteOffset := 44 }], agg := true, size := 11, bytes := 48, zero := (Value.agg #[Value.int IntKind.u64 0, Value.int IntKind.u64 0, Value.int IntKind.u32 0, Value.int IntKind.u8 0, Value.int IntKind.u8 0, Value.int IntKind.u8 0, Value.int IntKind.u8 0, Value.nilFunc, Value.pointer none, Value.int IntKind.i32 0, Value.int IntKind.i32 0]), ok := true }
def ty128 : TI := { und := TypeDesc.struct #[{ name := "Size_", type := 12, offset := 0, embedded := false, tag := "", pkgPath := "", byteOffset := 0 }, { name := "PtrBytes", type := 12, offset := 1, embedded := false, tag := "", pkgPath := "", byteOffset := 8 }, { name := "Hash", type := 103, offset := 2, embedded := false, tag := "", pkgPath := "", byteOffset := 16 }, { name := "TFlag", type := 122, offset := 3, embedded := false, tag := "", pkgPath := "", byteOffset := 20 }, { name := "Align_", type := 5, offset := 4, embedded := false, tag := "", pkgPath := "", byteOffset := 21 }, { name := "FieldAlign_", type := 5, offset := 5, embedded := false, tag := "", pkgPath := "", byteOffset := 22 }, { name := "Kind_", type := 123, offset := 6, embedded := false, tag := "", pkgPath := "", byteOffset := 23 }, { name := "Equal", type := 124, offset := 7, embedded := false, tag := "", pkgPath := "", byteOffset := 24 }, { name := "GCData", type := 83, offset := 8, embedded := false, tag := "", pkgPath := "", byteOffset := 32 }, { name := "Str", type := 125, offset := 9, embedded := false, tag := "", pkgPath := "", byteOffset := 40 }, { name := "PtrToThis", type := 126, offset := 10, embedded := false, tag := "", pkgPath := "", byteOffset := 44 }], agg := true, size := 11, bytes := 48, zero := (Value.agg #[Value.int IntKind.u64 0, Value.int IntKind.u64 0, Value.int IntKind.u32 0, Value.int IntKind.u8 0, Value.int IntKind.u8 0, Value.int IntKind.u8 0, Value.int IntKind.u8 0, Value.nilFunc, Value.pointer none, Value.int IntKind.i32 0, Value.int IntKind.i32 0]), ok := true }
def ttl : List TI := [ty0, ty1, ty2, ty3, ty4, ty5, ty6, ty7, ty8, ty9, ty10, ty11, ty12, ty13, ty14, ty15, ty16, ty17, ty18, ty19, ty20, ty21, ty22, ty23, ty24, ty25, ty26, ty27, ty28, ty29, ty30, ty31, ty32, ty33, ty34, ty35, ty36, ty37, ty38, ty39, ty40, ty41, ty42, ty43, ty44, ty45, ty46, ty47, ty48, ty49, ty50, ty51, ty52, ty53, ty54, ty55, ty56, ty57, ty58, ty59, ty60, ty61, ty62, ty63, ty64, ty65, ty66, ty67, ty68, ty69, ty70, ty71, ty72, ty73, ty74, ty75, ty76, ty77, ty78, ty79, ty80, ty81, ty82, ty83, ty84, ty85, ty86, ty87, ty88, ty89, ty90, ty91, ty92, ty93, ty94, ty95, ty96, ty97, ty98, ty99, ty100, ty101, ty102, ty103, ty104, ty105, ty106, ty107, ty108, ty109, ty110, ty111, ty112, ty113, ty114, ty115, ty116, ty117, ty118, ty119, ty120, ty121, ty122, ty123, ty124, ty125, ty126, ty127, ty128]
def tt (t : Nat) : TI := ttl.getD t badT
theorem tk0 : OkT Tryd.prog 0 ty0 := ⟨Tryd.underlying0, ⟨Tryd.t0, by kernel_rfl, rfl, rfl, rfl⟩, rfl, rfl⟩
theorem tk1 : OkT Tryd.prog 1 ty1 := ⟨Tryd.underlying1, ⟨Tryd.t1, by kernel_rfl, rfl, rfl, rfl⟩, rfl, rfl⟩
theorem tk2 : OkT Tryd.prog 2 ty2 := ⟨Tryd.underlying2, ⟨Tryd.t2, by kernel_rfl, rfl, rfl, rfl⟩, rfl, rfl⟩
theorem tk3 : OkT Tryd.prog 3 ty3 := ⟨Tryd.underlying3, ⟨Tryd.t3, by kernel_rfl, rfl, rfl, rfl⟩, rfl, rfl⟩
theorem tk4 : OkT Tryd.prog 4 ty4 := ⟨Tryd.underlying4, ⟨Tryd.t4, by kernel_rfl, rfl, rfl, rfl⟩, rfl, rfl⟩
theorem tk5 : OkT Tryd.prog 5 ty5 := ⟨Tryd.underlying5, ⟨Tryd.t5, by kernel_rfl, rfl, rfl, rfl⟩, rfl, rfl⟩
theorem tk6 : OkT Tryd.prog 6 ty6 := ⟨Tryd.underlying6, ⟨Tryd.t6, by kernel_rfl, rfl, rfl, rfl⟩, rfl, rfl⟩
theorem tk7 : OkT Tryd.prog 7 ty7 := ⟨Tryd.underlying7, ⟨Tryd.t7, by kernel_rfl, rfl, rfl, rfl⟩, rfl, rfl⟩
theorem tk8 : OkT Tryd.prog 8 ty8 := ⟨Tryd.underlying8, ⟨Tryd.t8, by kernel_rfl, rfl, rfl, rfl⟩, rfl, rfl⟩
theorem tk9 : OkT Tryd.prog 9 ty9 := ⟨Tryd.underlying9, ⟨Tryd.t9, by kernel_rfl, rfl, rfl, rfl⟩, rfl, rfl⟩
theorem tk10 : OkT Tryd.prog 10 ty10 := ⟨Tryd.underlying10, ⟨Tryd.t10, by kernel_rfl, rfl, rfl, rfl⟩, rfl, rfl⟩
theorem tk11 : OkT Tryd.prog 11 ty11 := ⟨Tryd.underlying11, ⟨Tryd.t11, by kernel_rfl, rfl, rfl, rfl⟩, rfl, rfl⟩
theorem tk12 : OkT Tryd.prog 12 ty12 := ⟨Tryd.underlying12, ⟨Tryd.t12, by kernel_rfl, rfl, rfl, rfl⟩, rfl, rfl⟩
theorem tk13 : OkT Tryd.prog 13 ty13 := ⟨Tryd.underlying13, ⟨Tryd.t13, by kernel_rfl, rfl, rfl, rfl⟩, rfl, rfl⟩
theorem tk14 : OkT Tryd.prog 14 ty14 := ⟨Tryd.underlying14, ⟨Tryd.t14, by kernel_rfl, rfl, rfl, rfl⟩, rfl, rfl⟩
theorem tk15 : OkT Tryd.prog 15 ty15 := ⟨Tryd.underlying15, ⟨Tryd.t15, by kernel_rfl, rfl, rfl, rfl⟩, rfl, rfl⟩
theorem tk16 : OkT Tryd.prog 16 ty16 := ⟨Tryd.underlying16, ⟨Tryd.t16, by kernel_rfl, rfl, rfl, rfl⟩, rfl, rfl⟩
theorem tk17 : OkT Tryd.prog 17 ty17 := ⟨Tryd.underlying17, ⟨Tryd.t17, by kernel_rfl, rfl, rfl, rfl⟩, rfl, rfl⟩
theorem tk18 : OkT Tryd.prog 18 ty18 := ⟨Tryd.underlying18, ⟨Tryd.t18, by kernel_rfl, rfl, rfl, rfl⟩, rfl, rfl⟩
theorem tk19 : OkT Tryd.prog 19 ty19 := ⟨Tryd.underlying19, ⟨Tryd.t19, by kernel_rfl, rfl, rfl, rfl⟩, rfl, rfl⟩
theorem tk20 : OkT Tryd.prog 20 ty20 := ⟨Tryd.underlying20, ⟨Tryd.t20, by kernel_rfl, rfl, rfl, rfl⟩, rfl, rfl⟩
theorem tk21 : OkT Tryd.prog 21 ty21 := ⟨Tryd.underlying21, ⟨Tryd.t21, by kernel_rfl, rfl, rfl, rfl⟩, rfl, rfl⟩
theorem tk22 : OkT Tryd.prog 22 ty22 := ⟨Tryd.underlying22, ⟨Tryd.t22, by kernel_rfl, rfl, rfl, rfl⟩, rfl, rfl⟩
theorem tk23 : OkT Tryd.prog 23 ty23 := ⟨Tryd.underlying23, ⟨Tryd.t23, by kernel_rfl, rfl, rfl, rfl⟩, rfl, rfl⟩
theorem tk24 : OkT Tryd.prog 24 ty24 := ⟨Tryd.underlying24, ⟨Tryd.t24, by kernel_rfl, rfl, rfl, rfl⟩, rfl, rfl⟩
theorem tk25 : OkT Tryd.prog 25 ty25 := ⟨Tryd.underlying25, ⟨Tryd.t25, by kernel_rfl, rfl, rfl, rfl⟩, rfl, rfl⟩
theorem tk26 : OkT Tryd.prog 26 ty26 := ⟨Tryd.underlying26, ⟨Tryd.t26, by kernel_rfl, rfl, rfl, rfl⟩, rfl, rfl⟩
theorem tk27 : OkT Tryd.prog 27 ty27 := ⟨Tryd.underlying27, ⟨Tryd.t27, by kernel_rfl, rfl, rfl, rfl⟩, rfl, rfl⟩
theorem tk28 : OkT Tryd.prog 28 ty28 := ⟨Tryd.underlying28, ⟨Tryd.t28, by kernel_rfl, rfl, rfl, rfl⟩, rfl, rfl⟩
theorem tk29 : OkT Tryd.prog 29 ty29 := ⟨Tryd.underlying29, ⟨Tryd.t29, by kernel_rfl, rfl, rfl, rfl⟩, rfl, rfl⟩
theorem tk30 : OkT Tryd.prog 30 ty30 := ⟨Tryd.underlying30, ⟨Tryd.t30, by kernel_rfl, rfl, rfl, rfl⟩, rfl, rfl⟩
theorem tk31 : OkT Tryd.prog 31 ty31 := ⟨Tryd.underlying31, ⟨Tryd.t31, by kernel_rfl, rfl, rfl, rfl⟩, rfl, rfl⟩
theorem tk32 : OkT Tryd.prog 32 ty32 := ⟨Tryd.underlying32, ⟨Tryd.t32, by kernel_rfl, rfl, rfl, rfl⟩, rfl, rfl⟩
theorem tk33 : OkT Tryd.prog 33 ty33 := ⟨Tryd.underlying33, ⟨Tryd.t33, by kernel_rfl, rfl, rfl, rfl⟩, rfl, rfl⟩
theorem tk34 : OkT Tryd.prog 34 ty34 := ⟨Tryd.underlying34, ⟨Tryd.t34, by kernel_rfl, rfl, rfl, rfl⟩, rfl, rfl⟩
theorem tk35 : OkT Tryd.prog 35 ty35 := ⟨Tryd.underlying35, ⟨Tryd.t35, by kernel_rfl, rfl, rfl, rfl⟩, rfl, rfl⟩
theorem tk36 : OkT Tryd.prog 36 ty36 := ⟨Tryd.underlying36, ⟨Tryd.t36, by kernel_rfl, rfl, rfl, rfl⟩, rfl, rfl⟩
theorem tk37 : OkT Tryd.prog 37 ty37 := ⟨Tryd.underlying37, ⟨Tryd.t37, by kernel_rfl, rfl, rfl, rfl⟩, rfl, rfl⟩
theorem tk38 : OkT Tryd.prog 38 ty38 := ⟨Tryd.underlying38, ⟨Tryd.t38, by kernel_rfl, rfl, rfl, rfl⟩, rfl, rfl⟩
theorem tk39 : OkT Tryd.prog 39 ty39 := ⟨Tryd.underlying39, ⟨Tryd.t39, by kernel_rfl, rfl, rfl, rfl⟩, rfl, rfl⟩
theorem tk40 : OkT Tryd.prog 40 ty40 := ⟨Tryd.underlying40, ⟨Tryd.t40, by kernel_rfl, rfl, rfl, rfl⟩, rfl, rfl⟩
theorem tk41 : OkT Tryd.prog 41 ty41 := ⟨Tryd.underlying41, ⟨Tryd.t41, by kernel_rfl, rfl, rfl, rfl⟩, rfl, rfl⟩
theorem tk42 : OkT Tryd.prog 42 ty42 := ⟨Tryd.underlying42, ⟨Tryd.t42, by kernel_rfl, rfl, rfl, rfl⟩, rfl, rfl⟩
theorem tk43 : OkT Tryd.prog 43 ty43 := ⟨Tryd.underlying43, ⟨Tryd.t43, by kernel_rfl, rfl, rfl, rfl⟩, rfl, rfl⟩
theorem tk44 : OkT Tryd.prog 44 ty44 := ⟨Tryd.underlying44, ⟨Tryd.t44, by kernel_rfl, rfl, rfl, rfl⟩, rfl, rfl⟩
theorem tk45 : OkT Tryd.prog 45 ty45 := ⟨Tryd.underlying45, ⟨Tryd.t45, by kernel_rfl, rfl, rfl, rfl⟩, rfl, rfl⟩
theorem tk46 : OkT Tryd.prog 46 ty46 := ⟨Tryd.underlying46, ⟨Tryd.t46, by kernel_rfl, rfl, rfl, rfl⟩, rfl, rfl⟩
theorem tk47 : OkT Tryd.prog 47 ty47 := ⟨Tryd.underlying47, ⟨Tryd.t47, by kernel_rfl, rfl, rfl, rfl⟩, rfl, rfl⟩
theorem tk48 : OkT Tryd.prog 48 ty48 := ⟨Tryd.underlying48, ⟨Tryd.t48, by kernel_rfl, rfl, rfl, rfl⟩, rfl, rfl⟩
theorem tk49 : OkT Tryd.prog 49 ty49 := ⟨Tryd.underlying49, ⟨Tryd.t49, by kernel_rfl, rfl, rfl, rfl⟩, rfl, rfl⟩
theorem tk50 : OkT Tryd.prog 50 ty50 := ⟨Tryd.underlying50, ⟨Tryd.t50, by kernel_rfl, rfl, rfl, rfl⟩, rfl, rfl⟩
theorem tk51 : OkT Tryd.prog 51 ty51 := ⟨Tryd.underlying51, ⟨Tryd.t51, by kernel_rfl, rfl, rfl, rfl⟩, rfl, rfl⟩
theorem tk52 : OkT Tryd.prog 52 ty52 := ⟨Tryd.underlying52, ⟨Tryd.t52, by kernel_rfl, rfl, rfl, rfl⟩, rfl, rfl⟩
theorem tk53 : OkT Tryd.prog 53 ty53 := ⟨Tryd.underlying53, ⟨Tryd.t53, by kernel_rfl, rfl, rfl, rfl⟩, rfl, rfl⟩
theorem tk54 : OkT Tryd.prog 54 ty54 := ⟨Tryd.underlying54, ⟨Tryd.t54, by kernel_rfl, rfl, rfl, rfl⟩, rfl, rfl⟩
theorem tk55 : OkT Tryd.prog 55 ty55 := ⟨Tryd.underlying55, ⟨Tryd.t55, by kernel_rfl, rfl, rfl, rfl⟩, rfl, rfl⟩
theorem tk56 : OkT Tryd.prog 56 ty56 := ⟨Tryd.underlying56, ⟨Tryd.t56, by kernel_rfl, rfl, rfl, rfl⟩, rfl, rfl⟩
theorem tk57 : OkT Tryd.prog 57 ty57 := ⟨Tryd.underlying57, ⟨Tryd.t57, by kernel_rfl, rfl, rfl, rfl⟩, rfl, rfl⟩
theorem tk58 : OkT Tryd.prog 58 ty58 := ⟨Tryd.underlying58, ⟨Tryd.t58, by kernel_rfl, rfl, rfl, rfl⟩, rfl, rfl⟩
theorem tk59 : OkT Tryd.prog 59 ty59 := ⟨Tryd.underlying59, ⟨Tryd.t59, by kernel_rfl, rfl, rfl, rfl⟩, rfl, rfl⟩
theorem tk60 : OkT Tryd.prog 60 ty60 := ⟨Tryd.underlying60, ⟨Tryd.t60, by kernel_rfl, rfl, rfl, rfl⟩, rfl, rfl⟩
theorem tk61 : OkT Tryd.prog 61 ty61 := ⟨Tryd.underlying61, ⟨Tryd.t61, by kernel_rfl, rfl, rfl, rfl⟩, rfl, rfl⟩
theorem tk62 : OkT Tryd.prog 62 ty62 := ⟨Tryd.underlying62, ⟨Tryd.t62, by kernel_rfl, rfl, rfl, rfl⟩, rfl, rfl⟩
theorem tk63 : OkT Tryd.prog 63 ty63 := ⟨Tryd.underlying63, ⟨Tryd.t63, by kernel_rfl, rfl, rfl, rfl⟩, rfl, rfl⟩
theorem tk64 : OkT Tryd.prog 64 ty64 := ⟨Tryd.underlying64, ⟨Tryd.t64, by kernel_rfl, rfl, rfl, rfl⟩, rfl, rfl⟩
theorem tk65 : OkT Tryd.prog 65 ty65 := ⟨Tryd.underlying65, ⟨Tryd.t65, by kernel_rfl, rfl, rfl, rfl⟩, rfl, rfl⟩
theorem tk66 : OkT Tryd.prog 66 ty66 := ⟨Tryd.underlying66, ⟨Tryd.t66, by kernel_rfl, rfl, rfl, rfl⟩, rfl, rfl⟩
theorem tk67 : OkT Tryd.prog 67 ty67 := ⟨Tryd.underlying67, ⟨Tryd.t67, by kernel_rfl, rfl, rfl, rfl⟩, rfl, rfl⟩
theorem tk68 : OkT Tryd.prog 68 ty68 := ⟨Tryd.underlying68, ⟨Tryd.t68, by kernel_rfl, rfl, rfl, rfl⟩, rfl, rfl⟩
theorem tk69 : OkT Tryd.prog 69 ty69 := ⟨Tryd.underlying69, ⟨Tryd.t69, by kernel_rfl, rfl, rfl, rfl⟩, rfl, rfl⟩
theorem tk70 : OkT Tryd.prog 70 ty70 := ⟨Tryd.underlying70, ⟨Tryd.t70, by kernel_rfl, rfl, rfl, rfl⟩, rfl, rfl⟩
theorem tk71 : OkT Tryd.prog 71 ty71 := ⟨Tryd.underlying71, ⟨Tryd.t71, by kernel_rfl, rfl, rfl, rfl⟩, rfl, rfl⟩
theorem tk72 : OkT Tryd.prog 72 ty72 := ⟨Tryd.underlying72, ⟨Tryd.t72, by kernel_rfl, rfl, rfl, rfl⟩, rfl, rfl⟩
theorem tk73 : OkT Tryd.prog 73 ty73 := ⟨Tryd.underlying73, ⟨Tryd.t73, by kernel_rfl, rfl, rfl, rfl⟩, rfl, rfl⟩
theorem tk74 : OkT Tryd.prog 74 ty74 := ⟨Tryd.underlying74, ⟨Tryd.t74, by kernel_rfl, rfl, rfl, rfl⟩, rfl, rfl⟩
theorem tk75 : OkT Tryd.prog 75 ty75 := ⟨Tryd.underlying75, ⟨Tryd.t75, by kernel_rfl, rfl, rfl, rfl⟩, rfl, rfl⟩
theorem tk76 : OkT Tryd.prog 76 ty76 := ⟨Tryd.underlying76, ⟨Tryd.t76, by kernel_rfl, rfl, rfl, rfl⟩, rfl, rfl⟩
theorem tk77 : OkT Tryd.prog 77 ty77 := ⟨Tryd.underlying77, ⟨Tryd.t77, by kernel_rfl, rfl, rfl, rfl⟩, rfl, rfl⟩
theorem tk78 : OkT Tryd.prog 78 ty78 := ⟨Tryd.underlying78, ⟨Tryd.t78, by kernel_rfl, rfl, rfl, rfl⟩, rfl, rfl⟩
theorem tk79 : OkT Tryd.prog 79 ty79 := ⟨Tryd.underlying79, ⟨Tryd.t79, by kernel_rfl, rfl, rfl, rfl⟩, rfl, rfl⟩
theorem tk80 : OkT Tryd.prog 80 ty80 := ⟨Tryd.underlying80, ⟨Tryd.t80, by kernel_rfl, rfl, rfl, rfl⟩, rfl, rfl⟩
theorem tk81 : OkT Tryd.prog 81 ty81 := ⟨Tryd.underlying81, ⟨Tryd.t81, by kernel_rfl, rfl, rfl, rfl⟩, rfl, rfl⟩
theorem tk82 : OkT Tryd.prog 82 ty82 := ⟨Tryd.underlying82, ⟨Tryd.t82, by kernel_rfl, rfl, rfl, rfl⟩, rfl, rfl⟩
theorem tk83 : OkT Tryd.prog 83 ty83 := ⟨Tryd.underlying83, ⟨Tryd.t83, by kernel_rfl, rfl, rfl, rfl⟩, rfl, rfl⟩
theorem tk84 : OkT Tryd.prog 84 ty84 := ⟨Tryd.underlying84, ⟨Tryd.t84, by kernel_rfl, rfl, rfl, rfl⟩, rfl, rfl⟩
theorem tk85 : OkT Tryd.prog 85 ty85 := ⟨Tryd.underlying85, ⟨Tryd.t85, by kernel_rfl, rfl, rfl, rfl⟩, rfl, rfl⟩
theorem tk86 : OkT Tryd.prog 86 ty86 := ⟨Tryd.underlying86, ⟨Tryd.t86, by kernel_rfl, rfl, rfl, rfl⟩, rfl, rfl⟩
theorem tk87 : OkT Tryd.prog 87 ty87 := ⟨Tryd.underlying87, ⟨Tryd.t87, by kernel_rfl, rfl, rfl, rfl⟩, rfl, rfl⟩
theorem tk88 : OkT Tryd.prog 88 ty88 := ⟨Tryd.underlying88, ⟨Tryd.t88, by kernel_rfl, rfl, rfl, rfl⟩, rfl, rfl⟩
theorem tk89 : OkT Tryd.prog 89 ty89 := ⟨Tryd.underlying89, ⟨Tryd.t89, by kernel_rfl, rfl, rfl, rfl⟩, rfl, rfl⟩
theorem tk90 : OkT Tryd.prog 90 ty90 := ⟨Tryd.underlying90, ⟨Tryd.t90, by kernel_rfl, rfl, rfl, rfl⟩, rfl, rfl⟩
theorem tk91 : OkT Tryd.prog 91 ty91 := ⟨Tryd.underlying91, ⟨Tryd.t91, by kernel_rfl, rfl, rfl, rfl⟩, rfl, rfl⟩
theorem tk92 : OkT Tryd.prog 92 ty92 := ⟨Tryd.underlying92, ⟨Tryd.t92, by kernel_rfl, rfl, rfl, rfl⟩, rfl, rfl⟩
theorem tk93 : OkT Tryd.prog 93 ty93 := ⟨Tryd.underlying93, ⟨Tryd.t93, by kernel_rfl, rfl, rfl, rfl⟩, rfl, rfl⟩
theorem tk94 : OkT Tryd.prog 94 ty94 := ⟨Tryd.underlying94, ⟨Tryd.t94, by kernel_rfl, rfl, rfl, rfl⟩, rfl, rfl⟩
theorem tk95 : OkT Tryd.prog 95 ty95 := ⟨Tryd.underlying95, ⟨Tryd.t95, by kernel_rfl, rfl, rfl, rfl⟩, rfl, rfl⟩
theorem tk96 : OkT Tryd.prog 96 ty96 := ⟨Tryd.underlying96, ⟨Tryd.t96, by kernel_rfl, rfl, rfl, rfl⟩, rfl, rfl⟩
theorem tk97 : OkT Tryd.prog 97 ty97 := ⟨Tryd.underlying97, ⟨Tryd.t97, by kernel_rfl, rfl, rfl, rfl⟩, rfl, rfl⟩
theorem tk98 : OkT Tryd.prog 98 ty98 := ⟨Tryd.underlying98, ⟨Tryd.t98, by kernel_rfl, rfl, rfl, rfl⟩, rfl, rfl⟩
theorem tk100 : OkT Tryd.prog 100 ty100 := ⟨Tryd.underlying100, ⟨Tryd.t100, by kernel_rfl, rfl, rfl, rfl⟩, rfl, rfl⟩
theorem tk101 : OkT Tryd.prog 101 ty101 := ⟨Tryd.underlying101, ⟨Tryd.t101, by kernel_rfl, rfl, rfl, rfl⟩, rfl, rfl⟩
theorem tk102 : OkT Tryd.prog 102 ty102 := ⟨Tryd.underlying102, ⟨Tryd.t102, by kernel_rfl, rfl, rfl, rfl⟩, rfl, rfl⟩
theorem tk103 : OkT Tryd.prog 103 ty103 := ⟨Tryd.underlying103, ⟨Tryd.t103, by kernel_rfl, rfl, rfl, rfl⟩, rfl, rfl⟩
theorem tk104 : OkT Tryd.prog 104 ty104 := ⟨Tryd.underlying104, ⟨Tryd.t104, by kernel_rfl, rfl, rfl, rfl⟩, rfl, rfl⟩
theorem tk105 : OkT Tryd.prog 105 ty105 := ⟨Tryd.underlying105, ⟨Tryd.t105, by kernel_rfl, rfl, rfl, rfl⟩, rfl, rfl⟩
theorem tk106 : OkT Tryd.prog 106 ty106 := ⟨Tryd.underlying106, ⟨Tryd.t106, by kernel_rfl, rfl, rfl, rfl⟩, rfl, rfl⟩
theorem tk107 : OkT Tryd.prog 107 ty107 := ⟨Tryd.underlying107, ⟨Tryd.t107, by kernel_rfl, rfl, rfl, rfl⟩, rfl, rfl⟩
theorem tk108 : OkT Tryd.prog 108 ty108 := ⟨Tryd.underlying108, ⟨Tryd.t108, by kernel_rfl, rfl, rfl, rfl⟩, rfl, rfl⟩
theorem tk109 : OkT Tryd.prog 109 ty109 := ⟨Tryd.underlying109, ⟨Tryd.t109, by kernel_rfl, rfl, rfl, rfl⟩, rfl, rfl⟩
theorem tk110 : OkT Tryd.prog 110 ty110 := ⟨Tryd.underlying110, ⟨Tryd.t110, by kernel_rfl, rfl, rfl, rfl⟩, rfl, rfl⟩
theorem tk111 : OkT Tryd.prog 111 ty111 := ⟨Tryd.underlying111, ⟨Tryd.t111, by kernel_rfl, rfl, rfl, rfl⟩, rfl, rfl⟩
theorem tk112 : OkT Tryd.prog 112 ty112 := ⟨Tryd.underlying112, ⟨Tryd.t112, by kernel_rfl, rfl, rfl, rfl⟩, rfl, rfl⟩
theorem tk113 : OkT Tryd.prog 113 ty113 := ⟨Tryd.underlying113, ⟨Tryd.t113, by kernel_rfl, rfl, rfl, rfl⟩, rfl, rfl⟩
theorem tk114 : OkT Tryd.prog 114 ty114 := ⟨Tryd.underlying114, ⟨Tryd.t114, by kernel_rfl, rfl, rfl, rfl⟩, rfl, rfl⟩
theorem tk115 : OkT Tryd.prog 115 ty115 := ⟨Tryd.underlying115, ⟨Tryd.t115, by kernel_rfl, rfl, rfl, rfl⟩, rfl, rfl⟩
theorem tk116 : OkT Tryd.prog 116 ty116 := ⟨Tryd.underlying116, ⟨Tryd.t116, by kernel_rfl, rfl, rfl, rfl⟩, rfl, rfl⟩
theorem tk117 : OkT Tryd.prog 117 ty117 := ⟨Tryd.underlying117, ⟨Tryd.t117, by kernel_rfl, rfl, rfl, rfl⟩, rfl, rfl⟩
theorem tk118 : OkT Tryd.prog 118 ty118 := ⟨Tryd.underlying118, ⟨Tryd.t118, by kernel_rfl, rfl, rfl, rfl⟩, rfl, rfl⟩
theorem tk119 : OkT Tryd.prog 119 ty119 := ⟨Tryd.underlying119, ⟨Tryd.t119, by kernel_rfl, rfl, rfl, rfl⟩, rfl, rfl⟩
theorem tk120 : OkT Tryd.prog 120 ty120 := ⟨Tryd.underlying120, ⟨Tryd.t120, by kernel_rfl, rfl, rfl, rfl⟩, rfl, rfl⟩
theorem tk121 : OkT Tryd.prog 121 ty121 := ⟨Tryd.underlying121, ⟨Tryd.t121, by kernel_rfl, rfl, rfl, rfl⟩, rfl, rfl⟩
theorem tk122 : OkT Tryd.prog 122 ty122 := ⟨Tryd.underlying122, ⟨Tryd.t122, by kernel_rfl, rfl, rfl, rfl⟩, rfl, rfl⟩
theorem tk123 : OkT Tryd.prog 123 ty123 := ⟨Tryd.underlying123, ⟨Tryd.t123, by kernel_rfl, rfl, rfl, rfl⟩, rfl, rfl⟩
theorem tk124 : OkT Tryd.prog 124 ty124 := ⟨Tryd.underlying124, ⟨Tryd.t124, by kernel_rfl, rfl, rfl, rfl⟩, rfl, rfl⟩
theorem tk125 : OkT Tryd.prog 125 ty125 := ⟨Tryd.underlying125, ⟨Tryd.t125, by kernel_rfl, rfl, rfl, rfl⟩, rfl, rfl⟩
theorem tk126 : OkT Tryd.prog 126 ty126 := ⟨Tryd.underlying126, ⟨Tryd.t126, by kernel_rfl, rfl, rfl, rfl⟩, rfl, rfl⟩
theorem tk127 : OkT Tryd.prog 127 ty127 := ⟨Tryd.underlying127, ⟨Tryd.t127, by kernel_rfl, rfl, rfl, rfl⟩, rfl, rfl⟩
theorem tk128 : OkT Tryd.prog 128 ty128 := ⟨Tryd.underlying128, ⟨Tryd.t128, by kernel_rfl, rfl, rfl, rfl⟩, rfl, rfl⟩
theorem tok : TOk Tryd.prog tt := fun t h => match t, h with
  | 0, _ => tk0
  | 1, _ => tk1
  | 2, _ => tk2
  | 3, _ => tk3
  | 4, _ => tk4
  | 5, _ => tk5
  | 6, _ => tk6
  | 7, _ => tk7
  | 8, _ => tk8
  | 9, _ => tk9
  | 10, _ => tk10
  | 11, _ => tk11
  | 12, _ => tk12
  | 13, _ => tk13
  | 14, _ => tk14
  | 15, _ => tk15
  | 16, _ => tk16
  | 17, _ => tk17
  | 18, _ => tk18
  | 19, _ => tk19
  | 20, _ => tk20
  | 21, _ => tk21
  | 22, _ => tk22
  | 23, _ => tk23
  | 24, _ => tk24
  | 25, _ => tk25
  | 26, _ => tk26
  | 27, _ => tk27
  | 28, _ => tk28
  | 29, _ => tk29
  | 30, _ => tk30
  | 31, _ => tk31
  | 32, _ => tk32
  | 33, _ => tk33
  | 34, _ => tk34
  | 35, _ => tk35
  | 36, _ => tk36
  | 37, _ => tk37
  | 38, _ => tk38
  | 39, _ => tk39
  | 40, _ => tk40
  | 41, _ => tk41
  | 42, _ => tk42
  | 43, _ => tk43
  | 44, _ => tk44
  | 45, _ => tk45
  | 46, _ => tk46
  | 47, _ => tk47
  | 48, _ => tk48
  | 49, _ => tk49
  | 50, _ => tk50
  | 51, _ => tk51
  | 52, _ => tk52
  | 53, _ => tk53
  | 54, _ => tk54
  | 55, _ => tk55
  | 56, _ => tk56
  | 57, _ => tk57
  | 58, _ => tk58
  | 59, _ => tk59
  | 60, _ => tk60
  | 61, _ => tk61
  | 62, _ => tk62
  | 63, _ => tk63
  | 64, _ => tk64
  | 65, _ => tk65
  | 66, _ => tk66
  | 67, _ => tk67
  | 68, _ => tk68
  | 69, _ => tk69
  | 70, _ => tk70
  | 71, _ => tk71
  | 72, _ => tk72
  | 73, _ => tk73
  | 74, _ => tk74
  | 75, _ => tk75
  | 76, _ => tk76
  | 77, _ => tk77
  | 78, _ => tk78
  | 79, _ => tk79
  | 80, _ => tk80
  | 81, _ => tk81
  | 82, _ => tk82
  | 83, _ => tk83
  | 84, _ => tk84
  | 85, _ => tk85
  | 86, _ => tk86
  | 87, _ => tk87
  | 88, _ => tk88
  | 89, _ => tk89
  | 90, _ => tk90
  | 91, _ => tk91
  | 92, _ => tk92
  | 93, _ => tk93
  | 94, _ => tk94
  | 95, _ => tk95
  | 96, _ => tk96
  | 97, _ => tk97
  | 98, _ => tk98
  | 99, h => by cases h
  | 100, _ => tk100
  | 101, _ => tk101
  | 102, _ => tk102
  | 103, _ => tk103
  | 104, _ => tk104
  | 105, _ => tk105
  | 106, _ => tk106
  | 107, _ => tk107
  | 108, _ => tk108
  | 109, _ => tk109
  | 110, _ => tk110
  | 111, _ => tk111
  | 112, _ => tk112
  | 113, _ => tk113
  | 114, _ => tk114
  | 115, _ => tk115
  | 116, _ => tk116
  | 117, _ => tk117
  | 118, _ => tk118
  | 119, _ => tk119
  | 120, _ => tk120
  | 121, _ => tk121
  | 122, _ => tk122
  | 123, _ => tk123
  | 124, _ => tk124
  | 125, _ => tk125
  | 126, _ => tk126
  | 127, _ => tk127
  | 128, _ => tk128
  | n + 129, h => by simp [tt, ttl, badT] at h
theorem en2 : Enters Tryd.prog 2 := .mk Tryd.func2 (by kernel_rfl) (by kernel_rfl)
theorem en3 : Enters Tryd.prog 3 := .mk Tryd.func3 (by kernel_rfl) (by kernel_rfl)
theorem en4 : Enters Tryd.prog 4 := .mk Tryd.func4 (by kernel_rfl) (by kernel_rfl)
theorem en5 : Enters Tryd.prog 5 := .mk Tryd.func5 (by kernel_rfl) (by kernel_rfl)
theorem en6 : Enters Tryd.prog 6 := .mk Tryd.func6 (by kernel_rfl) (by kernel_rfl)
theorem en7 : Enters Tryd.prog 7 := .mk Tryd.func7 (by kernel_rfl) (by kernel_rfl)
theorem en8 : Enters Tryd.prog 8 := .mk Tryd.func8 (by kernel_rfl) (by kernel_rfl)
theorem en9 : Enters Tryd.prog 9 := .mk Tryd.func9 (by kernel_rfl) (by kernel_rfl)
theorem en10 : Enters Tryd.prog 10 := .mk Tryd.func10 (by kernel_rfl) (by kernel_rfl)
theorem en11 : Enters Tryd.prog 11 := .mk Tryd.func11 (by kernel_rfl) (by kernel_rfl)
theorem en12 : Enters Tryd.prog 12 := .mk Tryd.func12 (by kernel_rfl) (by kernel_rfl)
theorem en13 : Enters Tryd.prog 13 := .mk Tryd.func13 (by kernel_rfl) (by kernel_rfl)
theorem en14 : Enters Tryd.prog 14 := .mk Tryd.func14 (by kernel_rfl) (by kernel_rfl)
theorem en15 : Enters Tryd.prog 15 := .mk Tryd.func15 (by kernel_rfl) (by kernel_rfl)
theorem en16 : Enters Tryd.prog 16 := .mk Tryd.func16 (by kernel_rfl) (by kernel_rfl)
theorem en17 : Enters Tryd.prog 17 := .mk Tryd.func17 (by kernel_rfl) (by kernel_rfl)
theorem en18 : Enters Tryd.prog 18 := .mk Tryd.func18 (by kernel_rfl) (by kernel_rfl)
theorem en19 : Enters Tryd.prog 19 := .mk Tryd.func19 (by kernel_rfl) (by kernel_rfl)
theorem en20 : Enters Tryd.prog 20 := .mk Tryd.func20 (by kernel_rfl) (by kernel_rfl)
theorem en21 : Enters Tryd.prog 21 := .mk Tryd.func21 (by kernel_rfl) (by kernel_rfl)
theorem en22 : Enters Tryd.prog 22 := .mk Tryd.func22 (by kernel_rfl) (by kernel_rfl)
theorem en23 : Enters Tryd.prog 23 := .mk Tryd.func23 (by kernel_rfl) (by kernel_rfl)
theorem en24 : Enters Tryd.prog 24 := .mk Tryd.func24 (by kernel_rfl) (by kernel_rfl)
theorem en25 : Enters Tryd.prog 25 := .mk Tryd.func25 (by kernel_rfl) (by kernel_rfl)
theorem en26 : Enters Tryd.prog 26 := .mk Tryd.func26 (by kernel_rfl) (by kernel_rfl)
theorem en27 : Enters Tryd.prog 27 := .mk Tryd.func27 (by kernel_rfl) (by kernel_rfl)
theorem en28 : Enters Tryd.prog 28 := .mk Tryd.func28 (by kernel_rfl) (by kernel_rfl)
theorem en29 : Enters Tryd.prog 29 := .mk Tryd.func29 (by kernel_rfl) (by kernel_rfl)
theorem en30 : Enters Tryd.prog 30 := .mk Tryd.func30 (by kernel_rfl) (by kernel_rfl)
theorem en31 : Enters Tryd.prog 31 := .mk Tryd.func31 (by kernel_rfl) (by kernel_rfl)
theorem en32 : Enters Tryd.prog 32 := .mk Tryd.func32 (by kernel_rfl) (by kernel_rfl)
theorem en33 : Enters Tryd.prog 33 := .mk Tryd.func33 (by kernel_rfl) (by kernel_rfl)
theorem en34 : Enters Tryd.prog 34 := .mk Tryd.func34 (by kernel_rfl) (by kernel_rfl)
theorem en35 : Enters Tryd.prog 35 := .mk Tryd.func35 (by kernel_rfl) (by kernel_rfl)
theorem en36 : Enters Tryd.prog 36 := .mk Tryd.func36 (by kernel_rfl) (by kernel_rfl)
theorem en37 : Enters Tryd.prog 37 := .mk Tryd.func37 (by kernel_rfl) (by kernel_rfl)
theorem en38 : Enters Tryd.prog 38 := .mk Tryd.func38 (by kernel_rfl) (by kernel_rfl)
theorem en39 : Enters Tryd.prog 39 := .mk Tryd.func39 (by kernel_rfl) (by kernel_rfl)
theorem en40 : Enters Tryd.prog 40 := .mk Tryd.func40 (by kernel_rfl) (by kernel_rfl)
theorem en41 : Enters Tryd.prog 41 := .mk Tryd.func41 (by kernel_rfl) (by kernel_rfl)
theorem en42 : Enters Tryd.prog 42 := .mk Tryd.func42 (by kernel_rfl) (by kernel_rfl)
theorem en43 : Enters Tryd.prog 43 := .mk Tryd.func43 (by kernel_rfl) (by kernel_rfl)
theorem en44 : Enters Tryd.prog 44 := .mk Tryd.func44 (by kernel_rfl) (by kernel_rfl)
theorem en45 : Enters Tryd.prog 45 := .mk Tryd.func45 (by kernel_rfl) (by kernel_rfl)
theorem en46 : Enters Tryd.prog 46 := .mk Tryd.func46 (by kernel_rfl) (by kernel_rfl)
theorem en47 : Enters Tryd.prog 47 := .mk Tryd.func47 (by kernel_rfl) (by kernel_rfl)
theorem en48 : Enters Tryd.prog 48 := .mk Tryd.func48 (by kernel_rfl) (by kernel_rfl)
theorem en49 : Enters Tryd.prog 49 := .mk Tryd.func49 (by kernel_rfl) (by kernel_rfl)
theorem en50 : Enters Tryd.prog 50 := .mk Tryd.func50 (by kernel_rfl) (by kernel_rfl)
theorem en51 : Enters Tryd.prog 51 := .mk Tryd.func51 (by kernel_rfl) (by kernel_rfl)
theorem en53 : Enters Tryd.prog 53 := .mk Tryd.func53 (by kernel_rfl) (by kernel_rfl)
theorem en54 : Enters Tryd.prog 54 := .mk Tryd.func54 (by kernel_rfl) (by kernel_rfl)
theorem en55 : Enters Tryd.prog 55 := .mk Tryd.func55 (by kernel_rfl) (by kernel_rfl)
theorem en56 : Enters Tryd.prog 56 := .mk Tryd.func56 (by kernel_rfl) (by kernel_rfl)
theorem en57 : Enters Tryd.prog 57 := .mk Tryd.func57 (by kernel_rfl) (by kernel_rfl)
theorem en58 : Enters Tryd.prog 58 := .mk Tryd.func58 (by kernel_rfl) (by kernel_rfl)
theorem en59 : Enters Tryd.prog 59 := .mk Tryd.func59 (by kernel_rfl) (by kernel_rfl)
theorem en60 : Enters Tryd.prog 60 := .mk Tryd.func60 (by kernel_rfl) (by kernel_rfl)
theorem en61 : Enters Tryd.prog 61 := .mk Tryd.func61 (by kernel_rfl) (by kernel_rfl)
theorem en65 : Enters Tryd.prog 65 := .mk Tryd.func65 (by kernel_rfl) (by kernel_rfl)
theorem en66 : Enters Tryd.prog 66 := .mk Tryd.func66 (by kernel_rfl) (by kernel_rfl)
theorem en67 : Enters Tryd.prog 67 := .mk Tryd.func67 (by kernel_rfl) (by kernel_rfl)
theorem en68 : Enters Tryd.prog 68 := .mk Tryd.func68 (by kernel_rfl) (by kernel_rfl)
theorem en69 : Enters Tryd.prog 69 := .mk Tryd.func69 (by kernel_rfl) (by kernel_rfl)
theorem en70 : Enters Tryd.prog 70 := .mk Tryd.func70 (by kernel_rfl) (by kernel_rfl)
theorem en71 : Enters Tryd.prog 71 := .mk Tryd.func71 (by kernel_rfl) (by kernel_rfl)
theorem en72 : Enters Tryd.prog 72 := .mk Tryd.func72 (by kernel_rfl) (by kernel_rfl)
theorem en73 : Enters Tryd.prog 73 := .mk Tryd.func73 (by kernel_rfl) (by kernel_rfl)
theorem en103 : Enters Tryd.prog 103 := .mk Tryd.func103 (by kernel_rfl) (by kernel_rfl)
theorem mixed : Tryd.prog.follows .mixedOrders = true := by kernel_rfl
end Go.Proofs.YtopbofalkcblgaaDoor
