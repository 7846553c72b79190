/- What the layer asks of this program: its types as a table, its functions as called. Printed by seat.py. -/
import Derived.Test.YtmjookofajlcoaaChecked
import Derived.Test.YtmjookofajlcoaaAx34
namespace Go.Proofs.Ytmjookofajlcoaa
open Go.Ax
open Cel (c)

def badT : TI := ⟨.invalid, false, 0, 0, .nilFunc, false⟩
def ty0 : TI := { und := TypeDesc.tuple #[], agg := false, size := 1, bytes := 0, zero := (Value.tuple #[]), ok := true }
def ty1 : TI := { und := TypeDesc.func #[] #[] false, agg := false, size := 1, bytes := 8, zero := Value.nilFunc, ok := true }
def ty2 : TI := { und := TypeDesc.int IntKind.i64, agg := false, size := 1, bytes := 8, zero := (Value.int IntKind.i64 0), ok := true }
def ty3 : TI := { und := TypeDesc.int IntKind.i64, agg := false, size := 1, bytes := 8, zero := (Value.int IntKind.i64 0), ok := true }
def ty4 : TI := { und := TypeDesc.bool, agg := false, size := 1, bytes := 1, zero := (Value.bool false), ok := true }
def ty5 : TI := { und := TypeDesc.int IntKind.u8, agg := false, size := 1, bytes := 1, zero := (Value.int IntKind.u8 0), ok := true }
def ty6 : TI := { und := TypeDesc.int IntKind.u8, agg := false, size := 1, bytes := 1, zero := (Value.int IntKind.u8 0), ok := true }
def ty7 : TI := { und := TypeDesc.struct #[{ name := "x", type := 2, offset := 0, embedded := false, tag := "", pkgPath := "runtime", byteOffset := 0 }, { name := "y", type := 3, offset := 1, embedded := false, tag := "", pkgPath := "runtime", byteOffset := 8 }, { name := "signed", type := 4, offset := 2, embedded := false, tag := "", pkgPath := "runtime", byteOffset := 16 }, { name := "code", type := 6, offset := 3, embedded := false, tag := "", pkgPath := "runtime", byteOffset := 17 }], agg := true, size := 4, bytes := 24, zero := (Value.agg #[Value.int IntKind.i64 0, Value.int IntKind.i64 0, Value.bool false, Value.int IntKind.u8 0]), ok := true }
def ty8 : TI := { und := TypeDesc.struct #[{ name := "x", type := 2, offset := 0, embedded := false, tag := "", pkgPath := "runtime", byteOffset := 0 }, { name := "y", type := 3, offset := 1, embedded := false, tag := "", pkgPath := "runtime", byteOffset := 8 }, { name := "signed", type := 4, offset := 2, embedded := false, tag := "", pkgPath := "runtime", byteOffset := 16 }, { name := "code", type := 6, offset := 3, embedded := false, tag := "", pkgPath := "runtime", byteOffset := 17 }], agg := true, size := 4, bytes := 24, zero := (Value.agg #[Value.int IntKind.i64 0, Value.int IntKind.i64 0, Value.bool false, Value.int IntKind.u8 0]), ok := true }
def ty9 : TI := { und := TypeDesc.string, agg := false, size := 1, bytes := 16, zero := (Value.string { data := #[] }), ok := true }
def ty10 : TI := { und := TypeDesc.string, agg := false, size := 1, bytes := 16, zero := (Value.string { data := #[] }), ok := true }
def ty11 : TI := { und := TypeDesc.string, agg := false, size := 1, bytes := 16, zero := (Value.string { data := #[] }), ok := true }
def ty12 : TI := { und := TypeDesc.int IntKind.u64, agg := false, size := 1, bytes := 8, zero := (Value.int IntKind.u64 0), ok := true }
def ty13 : TI := { und := TypeDesc.struct #[{ name := "msg", type := 9, offset := 0, embedded := false, tag := "", pkgPath := "runtime", byteOffset := 0 }, { name := "addr", type := 12, offset := 1, embedded := false, tag := "", pkgPath := "runtime", byteOffset := 16 }], agg := true, size := 2, bytes := 24, zero := (Value.agg #[Value.string { data := #[] }, Value.int IntKind.u64 0]), ok := true }
def ty14 : TI := { und := TypeDesc.struct #[{ name := "msg", type := 9, offset := 0, embedded := false, tag := "", pkgPath := "runtime", byteOffset := 0 }, { name := "addr", type := 12, offset := 1, embedded := false, tag := "", pkgPath := "runtime", byteOffset := 16 }], agg := true, size := 2, bytes := 24, zero := (Value.agg #[Value.string { data := #[] }, Value.int IntKind.u64 0]), ok := true }
def ty15 : TI := { und := TypeDesc.pointer 81, agg := false, size := 1, bytes := 8, zero := (Value.pointer none), ok := true }
def ty16 : TI := { und := TypeDesc.pointer 84, agg := false, size := 1, bytes := 8, zero := (Value.pointer none), ok := true }
def ty17 : TI := { und := TypeDesc.pointer 93, agg := false, size := 1, bytes := 8, zero := (Value.pointer none), ok := true }
def ty18 : TI := { und := TypeDesc.struct #[{ name := "typ", type := 17, offset := 0, embedded := false, tag := "", pkgPath := "internal/runtime/maps", byteOffset := 0 }], agg := true, size := 1, bytes := 8, zero := (Value.agg #[Value.pointer none]), ok := true }
def ty19 : TI := { und := TypeDesc.struct #[{ name := "typ", type := 17, offset := 0, embedded := false, tag := "", pkgPath := "internal/runtime/maps", byteOffset := 0 }], agg := true, size := 1, bytes := 8, zero := (Value.agg #[Value.pointer none]), ok := true }
def ty20 : TI := { und := TypeDesc.interface #[], agg := false, size := 1, bytes := 16, zero := Value.nilIface, ok := true }
def ty21 : TI := { und := TypeDesc.int IntKind.i32, agg := false, size := 1, bytes := 4, zero := (Value.int IntKind.i32 0), ok := true }
def ty22 : TI := { und := TypeDesc.slice 29, agg := false, size := 1, bytes := 24, zero := (Value.slice none 0 0), ok := true }
def ty23 : TI := { und := TypeDesc.func #[] #[4] false, agg := false, size := 1, bytes := 8, zero := Value.nilFunc, ok := true }
def ty24 : TI := { und := TypeDesc.int IntKind.i64, agg := false, size := 1, bytes := 8, zero := (Value.int IntKind.i64 0), ok := true }
def ty25 : TI := { und := TypeDesc.tuple #[22, 24], agg := false, size := 1, bytes := 0, zero := (Value.tuple #[Value.slice none 0 0, Value.int IntKind.i64 0]), ok := true }
def ty26 : TI := { und := TypeDesc.func #[22] #[22, 24] false, agg := false, size := 1, bytes := 8, zero := Value.nilFunc, ok := true }
def ty27 : TI := { und := TypeDesc.func #[22] #[4] false, agg := false, size := 1, bytes := 8, zero := Value.nilFunc, ok := true }
def ty28 : TI := { und := TypeDesc.struct #[{ name := "ID", type := 3, offset := 0, embedded := false, tag := "", pkgPath := "", byteOffset := 0 }, { name := "Offset", type := 3, offset := 1, embedded := false, tag := "", pkgPath := "", byteOffset := 8 }], agg := true, size := 2, bytes := 16, zero := (Value.agg #[Value.int IntKind.i64 0, Value.int IntKind.i64 0]), ok := true }
def ty29 : TI := { und := TypeDesc.struct #[{ name := "ID", type := 3, offset := 0, embedded := false, tag := "", pkgPath := "", byteOffset := 0 }, { name := "Offset", type := 3, offset := 1, embedded := false, tag := "", pkgPath := "", byteOffset := 8 }], agg := true, size := 2, bytes := 16, zero := (Value.agg #[Value.int IntKind.i64 0, Value.int IntKind.i64 0]), ok := true }
def ty30 : TI := { und := TypeDesc.func #[29, 29] #[4] false, agg := false, size := 1, bytes := 8, zero := Value.nilFunc, ok := true }
def ty31 : TI := { und := TypeDesc.tuple #[3, 24], agg := false, size := 1, bytes := 0, zero := (Value.tuple #[Value.int IntKind.i64 0, Value.int IntKind.i64 0]), ok := true }
def ty32 : TI := { und := TypeDesc.func #[3, 3] #[3, 24] false, agg := false, size := 1, bytes := 8, zero := Value.nilFunc, ok := true }
def ty33 : TI := { und := TypeDesc.func #[3, 3, 3, 3] #[4] false, agg := false, size := 1, bytes := 8, zero := Value.nilFunc, ok := true }
def ty34 : TI := { und := TypeDesc.func #[22, 3] #[4] false, agg := false, size := 1, bytes := 8, zero := Value.nilFunc, ok := true }
def ty35 : TI := { und := TypeDesc.func #[3, 3] #[4] false, agg := false, size := 1, bytes := 8, zero := Value.nilFunc, ok := true }
def ty36 : TI := { und := TypeDesc.func #[22, 3] #[3, 24] false, agg := false, size := 1, bytes := 8, zero := Value.nilFunc, ok := true }
def ty37 : TI := { und := TypeDesc.func #[22, 29] #[4] false, agg := false, size := 1, bytes := 8, zero := Value.nilFunc, ok := true }
def ty38 : TI := { und := TypeDesc.func #[22, 3, 3] #[4] false, agg := false, size := 1, bytes := 8, zero := Value.nilFunc, ok := true }
def ty39 : TI := { und := TypeDesc.func #[41, 43] #[22] false, agg := false, size := 1, bytes := 8, zero := Value.nilFunc, ok := true }
def ty40 : TI := { und := TypeDesc.func #[46] #[] false, agg := false, size := 1, bytes := 8, zero := Value.nilFunc, ok := true }
def ty41 : TI := { und := TypeDesc.func #[46] #[] false, agg := false, size := 1, bytes := 8, zero := Value.nilFunc, ok := true }
def ty42 : TI := { und := TypeDesc.func #[22] #[41] false, agg := false, size := 1, bytes := 8, zero := Value.nilFunc, ok := true }
def ty43 : TI := { und := TypeDesc.func #[29, 29] #[3] false, agg := false, size := 1, bytes := 8, zero := Value.nilFunc, ok := true }
def ty44 : TI := { und := TypeDesc.func #[29] #[3] false, agg := false, size := 1, bytes := 8, zero := Value.nilFunc, ok := true }
def ty45 : TI := { und := TypeDesc.func #[22, 46] #[3] false, agg := false, size := 1, bytes := 8, zero := Value.nilFunc, ok := true }
def ty46 : TI := { und := TypeDesc.func #[29] #[4] false, agg := false, size := 1, bytes := 8, zero := Value.nilFunc, ok := true }
def ty47 : TI := { und := TypeDesc.func #[22, 46] #[4] false, agg := false, size := 1, bytes := 8, zero := Value.nilFunc, ok := true }
def ty48 : TI := { und := TypeDesc.func #[41] #[22] false, agg := false, size := 1, bytes := 8, zero := Value.nilFunc, ok := true }
def ty49 : TI := { und := TypeDesc.func #[22, 43] #[] false, agg := false, size := 1, bytes := 8, zero := Value.nilFunc, ok := true }
def ty50 : TI := { und := TypeDesc.func #[56] #[3] true, agg := false, size := 1, bytes := 8, zero := Value.nilFunc, ok := true }
def ty51 : TI := { und := TypeDesc.func #[3, 3] #[3] false, agg := false, size := 1, bytes := 8, zero := Value.nilFunc, ok := true }
def ty52 : TI := { und := TypeDesc.func #[22, 41] #[22] false, agg := false, size := 1, bytes := 8, zero := Value.nilFunc, ok := true }
def ty53 : TI := { und := TypeDesc.func #[22, 3, 3, 3, 43] #[] false, agg := false, size := 1, bytes := 8, zero := Value.nilFunc, ok := true }
def ty54 : TI := { und := TypeDesc.func #[55] #[3] false, agg := false, size := 1, bytes := 8, zero := Value.nilFunc, ok := true }
def ty55 : TI := { und := TypeDesc.int IntKind.u64, agg := false, size := 1, bytes := 8, zero := (Value.int IntKind.u64 0), ok := true }
def ty56 : TI := { und := TypeDesc.slice 3, agg := false, size := 1, bytes := 24, zero := (Value.slice none 0 0), ok := true }
def ty57 : TI := { und := TypeDesc.func #[3] #[4] false, agg := false, size := 1, bytes := 8, zero := Value.nilFunc, ok := true }
def ty58 : TI := { und := TypeDesc.func #[22, 3, 3, 43] #[] false, agg := false, size := 1, bytes := 8, zero := Value.nilFunc, ok := true }
def ty59 : TI := { und := TypeDesc.int IntKind.i64, agg := false, size := 1, bytes := 8, zero := (Value.int IntKind.i64 0), ok := true }
def ty60 : TI := { und := TypeDesc.tuple #[3, 59], agg := false, size := 1, bytes := 0, zero := (Value.tuple #[Value.int IntKind.i64 0, Value.int IntKind.i64 0]), ok := true }
def ty61 : TI := { und := TypeDesc.func #[22, 3, 3, 43] #[3, 59] false, agg := false, size := 1, bytes := 8, zero := Value.nilFunc, ok := true }
def ty62 : TI := { und := TypeDesc.func #[22, 3, 3, 43] #[4] false, agg := false, size := 1, bytes := 8, zero := Value.nilFunc, ok := true }
def ty63 : TI := { und := TypeDesc.func #[22, 3, 3, 3, 43] #[3] false, agg := false, size := 1, bytes := 8, zero := Value.nilFunc, ok := true }
def ty64 : TI := { und := TypeDesc.tuple #[3, 4], agg := false, size := 1, bytes := 0, zero := (Value.tuple #[Value.int IntKind.i64 0, Value.bool false]), ok := true }
def ty65 : TI := { und := TypeDesc.func #[22, 3, 3, 3, 43] #[3, 4] false, agg := false, size := 1, bytes := 8, zero := Value.nilFunc, ok := true }
def ty66 : TI := { und := TypeDesc.func #[67] #[3] false, agg := false, size := 1, bytes := 8, zero := Value.nilFunc, ok := true }
def ty67 : TI := { und := TypeDesc.int IntKind.u32, agg := false, size := 1, bytes := 4, zero := (Value.int IntKind.u32 0), ok := true }
def ty68 : TI := { und := TypeDesc.func #[69] #[3] false, agg := false, size := 1, bytes := 8, zero := Value.nilFunc, ok := true }
def ty69 : TI := { und := TypeDesc.int IntKind.u64, agg := false, size := 1, bytes := 8, zero := (Value.int IntKind.u64 0), ok := true }
def ty70 : TI := { und := TypeDesc.int IntKind.u64, agg := false, size := 1, bytes := 8, zero := (Value.int IntKind.u64 0), ok := true }
def ty71 : TI := { und := TypeDesc.func #[3] #[55] false, agg := false, size := 1, bytes := 8, zero := Value.nilFunc, ok := true }
def ty72 : TI := { und := TypeDesc.func #[] #[69] false, agg := false, size := 1, bytes := 8, zero := Value.nilFunc, ok := true }
def ty73 : TI := { und := TypeDesc.func #[22, 3, 74, 43] #[3] false, agg := false, size := 1, bytes := 8, zero := Value.nilFunc, ok := true }
def ty74 : TI := { und := TypeDesc.pointer 3, agg := false, size := 1, bytes := 8, zero := (Value.pointer none), ok := true }
def ty75 : TI := { und := TypeDesc.func #[22, 3, 3, 3, 74, 43] #[3] false, agg := false, size := 1, bytes := 8, zero := Value.nilFunc, ok := true }
def ty76 : TI := { und := TypeDesc.pointer 70, agg := false, size := 1, bytes := 8, zero := (Value.pointer none), ok := true }
def ty77 : TI := { und := TypeDesc.tuple #[3, 3], agg := false, size := 1, bytes := 0, zero := (Value.tuple #[Value.int IntKind.i64 0, Value.int IntKind.i64 0]), ok := true }
def ty78 : TI := { und := TypeDesc.func #[22, 3, 3, 74, 43] #[3, 3] false, agg := false, size := 1, bytes := 8, zero := Value.nilFunc, ok := true }
def ty79 : TI := { und := TypeDesc.func #[] #[9] false, agg := false, size := 1, bytes := 8, zero := Value.nilFunc, ok := true }
def ty80 : TI := { und := TypeDesc.struct #[{ name := "_interface", type := 17, offset := 0, embedded := false, tag := "", pkgPath := "runtime", byteOffset := 0 }, { name := "concrete", type := 17, offset := 1, embedded := false, tag := "", pkgPath := "runtime", byteOffset := 8 }, { name := "asserted", type := 17, offset := 2, embedded := false, tag := "", pkgPath := "runtime", byteOffset := 16 }, { name := "missingMethod", type := 9, offset := 3, embedded := false, tag := "", pkgPath := "runtime", byteOffset := 24 }], agg := true, size := 4, bytes := 40, zero := (Value.agg #[Value.pointer none, Value.pointer none, Value.pointer none, Value.string { data := #[] }]), ok := true }
def ty81 : TI := { und := TypeDesc.struct #[{ name := "_interface", type := 17, offset := 0, embedded := false, tag := "", pkgPath := "runtime", byteOffset := 0 }, { name := "concrete", type := 17, offset := 1, embedded := false, tag := "", pkgPath := "runtime", byteOffset := 8 }, { name := "asserted", type := 17, offset := 2, embedded := false, tag := "", pkgPath := "runtime", byteOffset := 16 }, { name := "missingMethod", type := 9, offset := 3, embedded := false, tag := "", pkgPath := "runtime", byteOffset := 24 }], agg := true, size := 4, bytes := 40, zero := (Value.agg #[Value.pointer none, Value.pointer none, Value.pointer none, Value.string { data := #[] }]), ok := true }
def ty82 : TI := { und := TypeDesc.array 0 16, agg := true, size := 0, bytes := 0, zero := (Value.agg #[]), ok := true }
def ty83 : TI := { und := TypeDesc.struct #[{ name := "_", type := 82, offset := 0, embedded := false, tag := "", pkgPath := "runtime", byteOffset := 0 }], agg := true, size := 0, bytes := 0, zero := (Value.agg #[]), ok := true }
def ty84 : TI := { und := TypeDesc.struct #[{ name := "_", type := 82, offset := 0, embedded := false, tag := "", pkgPath := "runtime", byteOffset := 0 }], agg := true, size := 0, bytes := 0, zero := (Value.agg #[]), ok := true }
def ty85 : TI := { und := TypeDesc.func #[] #[3] false, agg := false, size := 1, bytes := 8, zero := Value.nilFunc, ok := true }
def ty86 : TI := { und := TypeDesc.int IntKind.u8, agg := false, size := 1, bytes := 1, zero := (Value.int IntKind.u8 0), ok := true }
def ty87 : TI := { und := TypeDesc.int IntKind.u8, agg := false, size := 1, bytes := 1, zero := (Value.int IntKind.u8 0), ok := true }
def ty88 : TI := { und := TypeDesc.func #[94, 94] #[4] false, agg := false, size := 1, bytes := 8, zero := Value.nilFunc, ok := true }
def ty89 : TI := { und := TypeDesc.pointer 5, agg := false, size := 1, bytes := 8, zero := (Value.pointer none), ok := true }
def ty90 : TI := { und := TypeDesc.int IntKind.i32, agg := false, size := 1, bytes := 4, zero := (Value.int IntKind.i32 0), ok := true }
def ty91 : TI := { und := TypeDesc.int IntKind.i32, agg := false, size := 1, bytes := 4, zero := (Value.int IntKind.i32 0), ok := true }
def ty92 : TI := { und := TypeDesc.struct #[{ name := "Size_", type := 12, offset := 0, embedded := false, tag := "", pkgPath := "", byteOffset := 0 }, { name := "PtrBytes", type := 12, offset := 1, embedded := false, tag := "", pkgPath := "", byteOffset := 8 }, { name := "Hash", type := 67, offset := 2, embedded := false, tag := "", pkgPath := "", byteOffset := 16 }, { name := "TFlag", type := 86, offset := 3, embedded := false, tag := "", pkgPath := "", byteOffset := 20 }, { name := "Align_", type := 5, offset := 4, embedded := false, tag := "", pkgPath := "", byteOffset := 21 }, { name := "FieldAlign_", type := 5, offset := 5, embedded := false, tag := "", pkgPath := "", byteOffset := 22 }, { name := "Kind_", type := 87, offset := 6, embedded := false, tag := "", pkgPath := "", byteOffset := 23 }, { name := "Equal", type := 88, offset := 7, embedded := false, tag := "", pkgPath := "", byteOffset := 24 }, { name := "GCData", type := 89, offset := 8, embedded := false, tag := "", pkgPath := "", byteOffset := 32 }, { name := "Str", type := 90, offset := 9, embedded := false, tag := "", pkgPath := "", byteOffset := 40 }, { name := "PtrToThis", type := 91, offset := 10, embedded := false, tag := "", pkgPath := "", byteOffset := 44 }], agg := true, size := 11, bytes := 48, zero := (Value.agg #[Value.int IntKind.u64 0, Value.int IntKind.u64 0, Value.int IntKind.u32 0, Value.int IntKind.u8 0, Value.int IntKind.u8 0, Value.int IntKind.u8 0, Value.int IntKind.u8 0, Value.nilFunc, Value.pointer none, Value.int IntKind.i32 0, Value.int IntKind.i32 0]), ok := true }
def ty93 : TI := { und := TypeDesc.struct #[{ name := "Size_", type := 12, offset := 0, embedded := false, tag := "", pkgPath := "", byteOffset := 0 }, { name := "PtrBytes", type := 12, offset := 1, embedded := false, tag := "", pkgPath := "", byteOffset := 8 }, { name := "Hash", type := 67, offset := 2, embedded := false, tag := "", pkgPath := "", byteOffset := 16 }, { name := "TFlag", type := 86, offset := 3, embedded := false, tag := "", pkgPath := "", byteOffset := 20 }, { name := "Align_", type := 5, offset := 4, embedded := false, tag := "", pkgPath := "", byteOffset := 21 }, { name := "FieldAlign_", type := 5, offset := 5, embedded := false, tag := "", pkgPath := "", byteOffset := 22 }, { name := "Kind_", type := 87, offset := 6, embedded := false, tag := "", pkgPath := "", byteOffset := 23 }, { name := "Equal", type := 88, offset := 7, embedded := false, tag := "", pkgPath := "", byteOffset := 24 }, { name := "GCData", type := 89, offset := 8, embedded := false, tag := "", pkgPath := "", byteOffset := 32 }, { name := "Str", type := 90, offset := 9, embedded := false, tag := "", pkgPath := "", byteOffset := 40 }, { name := "PtrToThis", type := 91, offset := 10, embedded := false, tag := "", pkgPath := "", byteOffset := 44 }], agg := true, size := 11, bytes := 48, zero := (Value.agg #[Value.int IntKind.u64 0, Value.int IntKind.u64 0, Value.int IntKind.u32 0, Value.int IntKind.u8 0, Value.int IntKind.u8 0, Value.int IntKind.u8 0, Value.int IntKind.u8 0, Value.nilFunc, Value.pointer none, Value.int IntKind.i32 0, Value.int IntKind.i32 0]), ok := true }
def ty94 : TI := { und := TypeDesc.unsafePointer, agg := false, size := 1, bytes := 8, zero := (Value.pointer none), ok := true }
def ttl : List TI := [ty0, ty1, ty2, ty3, ty4, ty5, ty6, ty7, ty8, ty9, ty10, ty11, ty12, ty13, ty14, ty15, ty16, ty17, ty18, ty19, ty20, ty21, ty22, ty23, ty24, ty25, ty26, ty27, ty28, ty29, ty30, ty31, ty32, ty33, ty34, ty35, ty36, ty37, ty38, ty39, ty40, ty41, ty42, ty43, ty44, ty45, ty46, ty47, ty48, ty49, ty50, ty51, ty52, ty53, ty54, ty55, ty56, ty57, ty58, ty59, ty60, ty61, ty62, ty63, ty64, ty65, ty66, ty67, ty68, ty69, ty70, ty71, ty72, ty73, ty74, ty75, ty76, ty77, ty78, ty79, ty80, ty81, ty82, ty83, ty84, ty85, ty86, ty87, ty88, ty89, ty90, ty91, ty92, ty93, ty94]
def tt (t : Nat) : TI := ttl.getD t badT
theorem tk0 : OkT Try.prog 0 ty0 := ⟨Try.underlying0, ⟨Try.t0, by kernel_rfl, rfl, rfl, rfl⟩, rfl, rfl⟩
theorem tk1 : OkT Try.prog 1 ty1 := ⟨Try.underlying1, ⟨Try.t1, by kernel_rfl, rfl, rfl, rfl⟩, rfl, rfl⟩
theorem tk2 : OkT Try.prog 2 ty2 := ⟨Try.underlying2, ⟨Try.t2, by kernel_rfl, rfl, rfl, rfl⟩, rfl, rfl⟩
theorem tk3 : OkT Try.prog 3 ty3 := ⟨Try.underlying3, ⟨Try.t3, by kernel_rfl, rfl, rfl, rfl⟩, rfl, rfl⟩
theorem tk4 : OkT Try.prog 4 ty4 := ⟨Try.underlying4, ⟨Try.t4, by kernel_rfl, rfl, rfl, rfl⟩, rfl, rfl⟩
theorem tk5 : OkT Try.prog 5 ty5 := ⟨Try.underlying5, ⟨Try.t5, by kernel_rfl, rfl, rfl, rfl⟩, rfl, rfl⟩
theorem tk6 : OkT Try.prog 6 ty6 := ⟨Try.underlying6, ⟨Try.t6, by kernel_rfl, rfl, rfl, rfl⟩, rfl, rfl⟩
theorem tk7 : OkT Try.prog 7 ty7 := ⟨Try.underlying7, ⟨Try.t7, by kernel_rfl, rfl, rfl, rfl⟩, rfl, rfl⟩
theorem tk8 : OkT Try.prog 8 ty8 := ⟨Try.underlying8, ⟨Try.t8, by kernel_rfl, rfl, rfl, rfl⟩, rfl, rfl⟩
theorem tk9 : OkT Try.prog 9 ty9 := ⟨Try.underlying9, ⟨Try.t9, by kernel_rfl, rfl, rfl, rfl⟩, rfl, rfl⟩
theorem tk10 : OkT Try.prog 10 ty10 := ⟨Try.underlying10, ⟨Try.t10, by kernel_rfl, rfl, rfl, rfl⟩, rfl, rfl⟩
theorem tk11 : OkT Try.prog 11 ty11 := ⟨Try.underlying11, ⟨Try.t11, by kernel_rfl, rfl, rfl, rfl⟩, rfl, rfl⟩
theorem tk12 : OkT Try.prog 12 ty12 := ⟨Try.underlying12, ⟨Try.t12, by kernel_rfl, rfl, rfl, rfl⟩, rfl, rfl⟩
theorem tk13 : OkT Try.prog 13 ty13 := ⟨Try.underlying13, ⟨Try.t13, by kernel_rfl, rfl, rfl, rfl⟩, rfl, rfl⟩
theorem tk14 : OkT Try.prog 14 ty14 := ⟨Try.underlying14, ⟨Try.t14, by kernel_rfl, rfl, rfl, rfl⟩, rfl, rfl⟩
theorem tk15 : OkT Try.prog 15 ty15 := ⟨Try.underlying15, ⟨Try.t15, by kernel_rfl, rfl, rfl, rfl⟩, rfl, rfl⟩
theorem tk16 : OkT Try.prog 16 ty16 := ⟨Try.underlying16, ⟨Try.t16, by kernel_rfl, rfl, rfl, rfl⟩, rfl, rfl⟩
theorem tk17 : OkT Try.prog 17 ty17 := ⟨Try.underlying17, ⟨Try.t17, by kernel_rfl, rfl, rfl, rfl⟩, rfl, rfl⟩
theorem tk18 : OkT Try.prog 18 ty18 := ⟨Try.underlying18, ⟨Try.t18, by kernel_rfl, rfl, rfl, rfl⟩, rfl, rfl⟩
theorem tk19 : OkT Try.prog 19 ty19 := ⟨Try.underlying19, ⟨Try.t19, by kernel_rfl, rfl, rfl, rfl⟩, rfl, rfl⟩
theorem tk20 : OkT Try.prog 20 ty20 := ⟨Try.underlying20, ⟨Try.t20, by kernel_rfl, rfl, rfl, rfl⟩, rfl, rfl⟩
theorem tk21 : OkT Try.prog 21 ty21 := ⟨Try.underlying21, ⟨Try.t21, by kernel_rfl, rfl, rfl, rfl⟩, rfl, rfl⟩
theorem tk22 : OkT Try.prog 22 ty22 := ⟨Try.underlying22, ⟨Try.t22, by kernel_rfl, rfl, rfl, rfl⟩, rfl, rfl⟩
theorem tk23 : OkT Try.prog 23 ty23 := ⟨Try.underlying23, ⟨Try.t23, by kernel_rfl, rfl, rfl, rfl⟩, rfl, rfl⟩
theorem tk24 : OkT Try.prog 24 ty24 := ⟨Try.underlying24, ⟨Try.t24, by kernel_rfl, rfl, rfl, rfl⟩, rfl, rfl⟩
theorem tk25 : OkT Try.prog 25 ty25 := ⟨Try.underlying25, ⟨Try.t25, by kernel_rfl, rfl, rfl, rfl⟩, rfl, rfl⟩
theorem tk26 : OkT Try.prog 26 ty26 := ⟨Try.underlying26, ⟨Try.t26, by kernel_rfl, rfl, rfl, rfl⟩, rfl, rfl⟩
theorem tk27 : OkT Try.prog 27 ty27 := ⟨Try.underlying27, ⟨Try.t27, by kernel_rfl, rfl, rfl, rfl⟩, rfl, rfl⟩
theorem tk28 : OkT Try.prog 28 ty28 := ⟨Try.underlying28, ⟨Try.t28, by kernel_rfl, rfl, rfl, rfl⟩, rfl, rfl⟩
theorem tk29 : OkT Try.prog 29 ty29 := ⟨Try.underlying29, ⟨Try.t29, by kernel_rfl, rfl, rfl, rfl⟩, rfl, rfl⟩
theorem tk30 : OkT Try.prog 30 ty30 := ⟨Try.underlying30, ⟨Try.t30, by kernel_rfl, rfl, rfl, rfl⟩, rfl, rfl⟩
theorem tk31 : OkT Try.prog 31 ty31 := ⟨Try.underlying31, ⟨Try.t31, by kernel_rfl, rfl, rfl, rfl⟩, rfl, rfl⟩
theorem tk32 : OkT Try.prog 32 ty32 := ⟨Try.underlying32, ⟨Try.t32, by kernel_rfl, rfl, rfl, rfl⟩, rfl, rfl⟩
theorem tk33 : OkT Try.prog 33 ty33 := ⟨Try.underlying33, ⟨Try.t33, by kernel_rfl, rfl, rfl, rfl⟩, rfl, rfl⟩
theorem tk34 : OkT Try.prog 34 ty34 := ⟨Try.underlying34, ⟨Try.t34, by kernel_rfl, rfl, rfl, rfl⟩, rfl, rfl⟩
theorem tk35 : OkT Try.prog 35 ty35 := ⟨Try.underlying35, ⟨Try.t35, by kernel_rfl, rfl, rfl, rfl⟩, rfl, rfl⟩
theorem tk36 : OkT Try.prog 36 ty36 := ⟨Try.underlying36, ⟨Try.t36, by kernel_rfl, rfl, rfl, rfl⟩, rfl, rfl⟩
theorem tk37 : OkT Try.prog 37 ty37 := ⟨Try.underlying37, ⟨Try.t37, by kernel_rfl, rfl, rfl, rfl⟩, rfl, rfl⟩
theorem tk38 : OkT Try.prog 38 ty38 := ⟨Try.underlying38, ⟨Try.t38, by kernel_rfl, rfl, rfl, rfl⟩, rfl, rfl⟩
theorem tk39 : OkT Try.prog 39 ty39 := ⟨Try.underlying39, ⟨Try.t39, by kernel_rfl, rfl, rfl, rfl⟩, rfl, rfl⟩
theorem tk40 : OkT Try.prog 40 ty40 := ⟨Try.underlying40, ⟨Try.t40, by kernel_rfl, rfl, rfl, rfl⟩, rfl, rfl⟩
theorem tk41 : OkT Try.prog 41 ty41 := ⟨Try.underlying41, ⟨Try.t41, by kernel_rfl, rfl, rfl, rfl⟩, rfl, rfl⟩
theorem tk42 : OkT Try.prog 42 ty42 := ⟨Try.underlying42, ⟨Try.t42, by kernel_rfl, rfl, rfl, rfl⟩, rfl, rfl⟩
theorem tk43 : OkT Try.prog 43 ty43 := ⟨Try.underlying43, ⟨Try.t43, by kernel_rfl, rfl, rfl, rfl⟩, rfl, rfl⟩
theorem tk44 : OkT Try.prog 44 ty44 := ⟨Try.underlying44, ⟨Try.t44, by kernel_rfl, rfl, rfl, rfl⟩, rfl, rfl⟩
theorem tk45 : OkT Try.prog 45 ty45 := ⟨Try.underlying45, ⟨Try.t45, by kernel_rfl, rfl, rfl, rfl⟩, rfl, rfl⟩
theorem tk46 : OkT Try.prog 46 ty46 := ⟨Try.underlying46, ⟨Try.t46, by kernel_rfl, rfl, rfl, rfl⟩, rfl, rfl⟩
theorem tk47 : OkT Try.prog 47 ty47 := ⟨Try.underlying47, ⟨Try.t47, by kernel_rfl, rfl, rfl, rfl⟩, rfl, rfl⟩
theorem tk48 : OkT Try.prog 48 ty48 := ⟨Try.underlying48, ⟨Try.t48, by kernel_rfl, rfl, rfl, rfl⟩, rfl, rfl⟩
theorem tk49 : OkT Try.prog 49 ty49 := ⟨Try.underlying49, ⟨Try.t49, by kernel_rfl, rfl, rfl, rfl⟩, rfl, rfl⟩
theorem tk50 : OkT Try.prog 50 ty50 := ⟨Try.underlying50, ⟨Try.t50, by kernel_rfl, rfl, rfl, rfl⟩, rfl, rfl⟩
theorem tk51 : OkT Try.prog 51 ty51 := ⟨Try.underlying51, ⟨Try.t51, by kernel_rfl, rfl, rfl, rfl⟩, rfl, rfl⟩
theorem tk52 : OkT Try.prog 52 ty52 := ⟨Try.underlying52, ⟨Try.t52, by kernel_rfl, rfl, rfl, rfl⟩, rfl, rfl⟩
theorem tk53 : OkT Try.prog 53 ty53 := ⟨Try.underlying53, ⟨Try.t53, by kernel_rfl, rfl, rfl, rfl⟩, rfl, rfl⟩
theorem tk54 : OkT Try.prog 54 ty54 := ⟨Try.underlying54, ⟨Try.t54, by kernel_rfl, rfl, rfl, rfl⟩, rfl, rfl⟩
theorem tk55 : OkT Try.prog 55 ty55 := ⟨Try.underlying55, ⟨Try.t55, by kernel_rfl, rfl, rfl, rfl⟩, rfl, rfl⟩
theorem tk56 : OkT Try.prog 56 ty56 := ⟨Try.underlying56, ⟨Try.t56, by kernel_rfl, rfl, rfl, rfl⟩, rfl, rfl⟩
theorem tk57 : OkT Try.prog 57 ty57 := ⟨Try.underlying57, ⟨Try.t57, by kernel_rfl, rfl, rfl, rfl⟩, rfl, rfl⟩
theorem tk58 : OkT Try.prog 58 ty58 := ⟨Try.underlying58, ⟨Try.t58, by kernel_rfl, rfl, rfl, rfl⟩, rfl, rfl⟩
theorem tk59 : OkT Try.prog 59 ty59 := ⟨Try.underlying59, ⟨Try.t59, by kernel_rfl, rfl, rfl, rfl⟩, rfl, rfl⟩
theorem tk60 : OkT Try.prog 60 ty60 := ⟨Try.underlying60, ⟨Try.t60, by kernel_rfl, rfl, rfl, rfl⟩, rfl, rfl⟩
theorem tk61 : OkT Try.prog 61 ty61 := ⟨Try.underlying61, ⟨Try.t61, by kernel_rfl, rfl, rfl, rfl⟩, rfl, rfl⟩
theorem tk62 : OkT Try.prog 62 ty62 := ⟨Try.underlying62, ⟨Try.t62, by kernel_rfl, rfl, rfl, rfl⟩, rfl, rfl⟩
theorem tk63 : OkT Try.prog 63 ty63 := ⟨Try.underlying63, ⟨Try.t63, by kernel_rfl, rfl, rfl, rfl⟩, rfl, rfl⟩
theorem tk64 : OkT Try.prog 64 ty64 := ⟨Try.underlying64, ⟨Try.t64, by kernel_rfl, rfl, rfl, rfl⟩, rfl, rfl⟩
theorem tk65 : OkT Try.prog 65 ty65 := ⟨Try.underlying65, ⟨Try.t65, by kernel_rfl, rfl, rfl, rfl⟩, rfl, rfl⟩
theorem tk66 : OkT Try.prog 66 ty66 := ⟨Try.underlying66, ⟨Try.t66, by kernel_rfl, rfl, rfl, rfl⟩, rfl, rfl⟩
theorem tk67 : OkT Try.prog 67 ty67 := ⟨Try.underlying67, ⟨Try.t67, by kernel_rfl, rfl, rfl, rfl⟩, rfl, rfl⟩
theorem tk68 : OkT Try.prog 68 ty68 := ⟨Try.underlying68, ⟨Try.t68, by kernel_rfl, rfl, rfl, rfl⟩, rfl, rfl⟩
theorem tk69 : OkT Try.prog 69 ty69 := ⟨Try.underlying69, ⟨Try.t69, by kernel_rfl, rfl, rfl, rfl⟩, rfl, rfl⟩
theorem tk70 : OkT Try.prog 70 ty70 := ⟨Try.underlying70, ⟨Try.t70, by kernel_rfl, rfl, rfl, rfl⟩, rfl, rfl⟩
theorem tk71 : OkT Try.prog 71 ty71 := ⟨Try.underlying71, ⟨Try.t71, by kernel_rfl, rfl, rfl, rfl⟩, rfl, rfl⟩
theorem tk72 : OkT Try.prog 72 ty72 := ⟨Try.underlying72, ⟨Try.t72, by kernel_rfl, rfl, rfl, rfl⟩, rfl, rfl⟩
theorem tk73 : OkT Try.prog 73 ty73 := ⟨Try.underlying73, ⟨Try.t73, by kernel_rfl, rfl, rfl, rfl⟩, rfl, rfl⟩
theorem tk74 : OkT Try.prog 74 ty74 := ⟨Try.underlying74, ⟨Try.t74, by kernel_rfl, rfl, rfl, rfl⟩, rfl, rfl⟩
theorem tk75 : OkT Try.prog 75 ty75 := ⟨Try.underlying75, ⟨Try.t75, by kernel_rfl, rfl, rfl, rfl⟩, rfl, rfl⟩
theorem tk76 : OkT Try.prog 76 ty76 := ⟨Try.underlying76, ⟨Try.t76, by kernel_rfl, rfl, rfl, rfl⟩, rfl, rfl⟩
theorem tk77 : OkT Try.prog 77 ty77 := ⟨Try.underlying77, ⟨Try.t77, by kernel_rfl, rfl, rfl, rfl⟩, rfl, rfl⟩
theorem tk78 : OkT Try.prog 78 ty78 := ⟨Try.underlying78, ⟨Try.t78, by kernel_rfl, rfl, rfl, rfl⟩, rfl, rfl⟩
theorem tk79 : OkT Try.prog 79 ty79 := ⟨Try.underlying79, ⟨Try.t79, by kernel_rfl, rfl, rfl, rfl⟩, rfl, rfl⟩
theorem tk80 : OkT Try.prog 80 ty80 := ⟨Try.underlying80, ⟨Try.t80, by kernel_rfl, rfl, rfl, rfl⟩, rfl, rfl⟩
theorem tk81 : OkT Try.prog 81 ty81 := ⟨Try.underlying81, ⟨Try.t81, by kernel_rfl, rfl, rfl, rfl⟩, rfl, rfl⟩
theorem tk82 : OkT Try.prog 82 ty82 := ⟨Try.underlying82, ⟨Try.t82, by kernel_rfl, rfl, rfl, rfl⟩, rfl, rfl⟩
theorem tk83 : OkT Try.prog 83 ty83 := ⟨Try.underlying83, ⟨Try.t83, by kernel_rfl, rfl, rfl, rfl⟩, rfl, rfl⟩
theorem tk84 : OkT Try.prog 84 ty84 := ⟨Try.underlying84, ⟨Try.t84, by kernel_rfl, rfl, rfl, rfl⟩, rfl, rfl⟩
theorem tk85 : OkT Try.prog 85 ty85 := ⟨Try.underlying85, ⟨Try.t85, by kernel_rfl, rfl, rfl, rfl⟩, rfl, rfl⟩
theorem tk86 : OkT Try.prog 86 ty86 := ⟨Try.underlying86, ⟨Try.t86, by kernel_rfl, rfl, rfl, rfl⟩, rfl, rfl⟩
theorem tk87 : OkT Try.prog 87 ty87 := ⟨Try.underlying87, ⟨Try.t87, by kernel_rfl, rfl, rfl, rfl⟩, rfl, rfl⟩
theorem tk88 : OkT Try.prog 88 ty88 := ⟨Try.underlying88, ⟨Try.t88, by kernel_rfl, rfl, rfl, rfl⟩, rfl, rfl⟩
theorem tk89 : OkT Try.prog 89 ty89 := ⟨Try.underlying89, ⟨Try.t89, by kernel_rfl, rfl, rfl, rfl⟩, rfl, rfl⟩
theorem tk90 : OkT Try.prog 90 ty90 := ⟨Try.underlying90, ⟨Try.t90, by kernel_rfl, rfl, rfl, rfl⟩, rfl, rfl⟩
theorem tk91 : OkT Try.prog 91 ty91 := ⟨Try.underlying91, ⟨Try.t91, by kernel_rfl, rfl, rfl, rfl⟩, rfl, rfl⟩
theorem tk92 : OkT Try.prog 92 ty92 := ⟨Try.underlying92, ⟨Try.t92, by kernel_rfl, rfl, rfl, rfl⟩, rfl, rfl⟩
theorem tk93 : OkT Try.prog 93 ty93 := ⟨Try.underlying93, ⟨Try.t93, by kernel_rfl, rfl, rfl, rfl⟩, rfl, rfl⟩
theorem tk94 : OkT Try.prog 94 ty94 := ⟨Try.underlying94, ⟨Try.t94, by kernel_rfl, rfl, rfl, rfl⟩, rfl, rfl⟩
theorem tok : TOk Try.prog tt := fun t h => match t, h with
  | 0, _ => tk0
  | 1, _ => tk1
  | 2, _ => tk2
  | 3, _ => tk3
  | 4, _ => tk4
  | 5, _ => tk5
  | 6, _ => tk6
  | 7, _ => tk7
  | 8, _ => tk8
  | 9, _ => tk9
  | 10, _ => tk10
  | 11, _ => tk11
  | 12, _ => tk12
  | 13, _ => tk13
  | 14, _ => tk14
  | 15, _ => tk15
  | 16, _ => tk16
  | 17, _ => tk17
  | 18, _ => tk18
  | 19, _ => tk19
  | 20, _ => tk20
  | 21, _ => tk21
  | 22, _ => tk22
  | 23, _ => tk23
  | 24, _ => tk24
  | 25, _ => tk25
  | 26, _ => tk26
  | 27, _ => tk27
  | 28, _ => tk28
  | 29, _ => tk29
  | 30, _ => tk30
  | 31, _ => tk31
  | 32, _ => tk32
  | 33, _ => tk33
  | 34, _ => tk34
  | 35, _ => tk35
  | 36, _ => tk36
  | 37, _ => tk37
  | 38, _ => tk38
  | 39, _ => tk39
  | 40, _ => tk40
  | 41, _ => tk41
  | 42, _ => tk42
  | 43, _ => tk43
  | 44, _ => tk44
  | 45, _ => tk45
  | 46, _ => tk46
  | 47, _ => tk47
  | 48, _ => tk48
  | 49, _ => tk49
  | 50, _ => tk50
  | 51, _ => tk51
  | 52, _ => tk52
  | 53, _ => tk53
  | 54, _ => tk54
  | 55, _ => tk55
  | 56, _ => tk56
  | 57, _ => tk57
  | 58, _ => tk58
  | 59, _ => tk59
  | 60, _ => tk60
  | 61, _ => tk61
  | 62, _ => tk62
  | 63, _ => tk63
  | 64, _ => tk64
  | 65, _ => tk65
  | 66, _ => tk66
  | 67, _ => tk67
  | 68, _ => tk68
  | 69, _ => tk69
  | 70, _ => tk70
  | 71, _ => tk71
  | 72, _ => tk72
  | 73, _ => tk73
  | 74, _ => tk74
  | 75, _ => tk75
  | 76, _ => tk76
  | 77, _ => tk77
  | 78, _ => tk78
  | 79, _ => tk79
  | 80, _ => tk80
  | 81, _ => tk81
  | 82, _ => tk82
  | 83, _ => tk83
  | 84, _ => tk84
  | 85, _ => tk85
  | 86, _ => tk86
  | 87, _ => tk87
  | 88, _ => tk88
  | 89, _ => tk89
  | 90, _ => tk90
  | 91, _ => tk91
  | 92, _ => tk92
  | 93, _ => tk93
  | 94, _ => tk94
  | n + 95, h => by simp [tt, ttl, badT] at h
theorem en2 : Enters Try.prog 2 := .mk Try.func2 (by kernel_rfl) (by kernel_rfl)
theorem en3 : Enters Try.prog 3 := .mk Try.func3 (by kernel_rfl) (by kernel_rfl)
theorem en4 : Enters Try.prog 4 := .mk Try.func4 (by kernel_rfl) (by kernel_rfl)
theorem en5 : Enters Try.prog 5 := .mk Try.func5 (by kernel_rfl) (by kernel_rfl)
theorem en6 : Enters Try.prog 6 := .mk Try.func6 (by kernel_rfl) (by kernel_rfl)
theorem en7 : Enters Try.prog 7 := .mk Try.func7 (by kernel_rfl) (by kernel_rfl)
theorem en8 : Enters Try.prog 8 := .mk Try.func8 (by kernel_rfl) (by kernel_rfl)
theorem en9 : Enters Try.prog 9 := .mk Try.func9 (by kernel_rfl) (by kernel_rfl)
theorem en10 : Enters Try.prog 10 := .mk Try.func10 (by kernel_rfl) (by kernel_rfl)
theorem en11 : Enters Try.prog 11 := .mk Try.func11 (by kernel_rfl) (by kernel_rfl)
theorem en12 : Enters Try.prog 12 := .mk Try.func12 (by kernel_rfl) (by kernel_rfl)
theorem en13 : Enters Try.prog 13 := .mk Try.func13 (by kernel_rfl) (by kernel_rfl)
theorem en14 : Enters Try.prog 14 := .mk Try.func14 (by kernel_rfl) (by kernel_rfl)
theorem en15 : Enters Try.prog 15 := .mk Try.func15 (by kernel_rfl) (by kernel_rfl)
theorem en16 : Enters Try.prog 16 := .mk Try.func16 (by kernel_rfl) (by kernel_rfl)
theorem en17 : Enters Try.prog 17 := .mk Try.func17 (by kernel_rfl) (by kernel_rfl)
theorem en18 : Enters Try.prog 18 := .mk Try.func18 (by kernel_rfl) (by kernel_rfl)
theorem en19 : Enters Try.prog 19 := .mk Try.func19 (by kernel_rfl) (by kernel_rfl)
theorem en20 : Enters Try.prog 20 := .mk Try.func20 (by kernel_rfl) (by kernel_rfl)
theorem en21 : Enters Try.prog 21 := .mk Try.func21 (by kernel_rfl) (by kernel_rfl)
theorem en22 : Enters Try.prog 22 := .mk Try.func22 (by kernel_rfl) (by kernel_rfl)
theorem en23 : Enters Try.prog 23 := .mk Try.func23 (by kernel_rfl) (by kernel_rfl)
theorem en24 : Enters Try.prog 24 := .mk Try.func24 (by kernel_rfl) (by kernel_rfl)
theorem en25 : Enters Try.prog 25 := .mk Try.func25 (by kernel_rfl) (by kernel_rfl)
theorem en26 : Enters Try.prog 26 := .mk Try.func26 (by kernel_rfl) (by kernel_rfl)
theorem en27 : Enters Try.prog 27 := .mk Try.func27 (by kernel_rfl) (by kernel_rfl)
theorem en28 : Enters Try.prog 28 := .mk Try.func28 (by kernel_rfl) (by kernel_rfl)
theorem en29 : Enters Try.prog 29 := .mk Try.func29 (by kernel_rfl) (by kernel_rfl)
theorem en30 : Enters Try.prog 30 := .mk Try.func30 (by kernel_rfl) (by kernel_rfl)
theorem en31 : Enters Try.prog 31 := .mk Try.func31 (by kernel_rfl) (by kernel_rfl)
theorem en32 : Enters Try.prog 32 := .mk Try.func32 (by kernel_rfl) (by kernel_rfl)
theorem en33 : Enters Try.prog 33 := .mk Try.func33 (by kernel_rfl) (by kernel_rfl)
theorem en34 : Enters Try.prog 34 := .mk Try.func34 (by kernel_rfl) (by kernel_rfl)
theorem en35 : Enters Try.prog 35 := .mk Try.func35 (by kernel_rfl) (by kernel_rfl)
theorem en36 : Enters Try.prog 36 := .mk Try.func36 (by kernel_rfl) (by kernel_rfl)
theorem en37 : Enters Try.prog 37 := .mk Try.func37 (by kernel_rfl) (by kernel_rfl)
theorem en38 : Enters Try.prog 38 := .mk Try.func38 (by kernel_rfl) (by kernel_rfl)
theorem en39 : Enters Try.prog 39 := .mk Try.func39 (by kernel_rfl) (by kernel_rfl)
theorem en40 : Enters Try.prog 40 := .mk Try.func40 (by kernel_rfl) (by kernel_rfl)
theorem en41 : Enters Try.prog 41 := .mk Try.func41 (by kernel_rfl) (by kernel_rfl)
theorem en42 : Enters Try.prog 42 := .mk Try.func42 (by kernel_rfl) (by kernel_rfl)
theorem en43 : Enters Try.prog 43 := .mk Try.func43 (by kernel_rfl) (by kernel_rfl)
theorem en44 : Enters Try.prog 44 := .mk Try.func44 (by kernel_rfl) (by kernel_rfl)
theorem en45 : Enters Try.prog 45 := .mk Try.func45 (by kernel_rfl) (by kernel_rfl)
theorem en46 : Enters Try.prog 46 := .mk Try.func46 (by kernel_rfl) (by kernel_rfl)
theorem en47 : Enters Try.prog 47 := .mk Try.func47 (by kernel_rfl) (by kernel_rfl)
theorem en48 : Enters Try.prog 48 := .mk Try.func48 (by kernel_rfl) (by kernel_rfl)
theorem en49 : Enters Try.prog 49 := .mk Try.func49 (by kernel_rfl) (by kernel_rfl)
theorem mixed : Try.prog.follows .mixedOrders = true := by kernel_rfl
end Go.Proofs.Ytmjookofajlcoaa
