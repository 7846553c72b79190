/- The reference's Right. -/
import Derived.Test.YtcomjodfkcnjhaaGreatDoorCP2
set_option linter.unusedSimpArgs false
set_option linter.unusedVariables false
namespace Go.Proofs.YtcomjodfkcnjhaaGreatDoor
open Go.Ax
open Cel (c)
theorem qX12 {p : Prop} (h : p := by exact AStepD.geq rfl rfl rfl) : p := h
theorem qX111 {p : Prop} (h : p := by exact AStepD.lss rfl rfl rfl) : p := h
theorem qX117 {p : Prop} (h : p := by exact AStepD.gtr rfl rfl rfl) : p := h
theorem qX118 {p : Prop} (h : p := by (try simp only [za, zb, zc, zd, ne_eq]); omega) : p := h
theorem qX119 {p : Prop} (h : p := by first | exact Nat.le_of_ble_eq_true rfl | (simp; done) | (simp; omega) | (simp_all; omega)) : p := h
theorem qX120 {p : Prop} (h : p := by first | with_reducible assumption | (simp only [List.take_succ_cons, List.take_zero, List.drop_succ_cons, List.drop_zero]; exact rfl) | exact rfl) : p := h
theorem qX122 {p : Prop} (h : p := by first | ((with_reducible refine over_all ?_); exact rfl) | (simp only [over, List.take_succ_cons, List.take_zero, List.drop_succ_cons, List.drop_zero, List.length_cons, List.length_nil, List.nil_append, List.cons_append, Nat.reduceAdd, Nat.zero_add, List.drop_nil, List.append_nil]; exact rfl) | conv => lhs; whnf) : p := h
theorem qX130 {p : Prop} (h : p := by exact SD.s rfl rfl rfl qX12) : p := h
theorem qX138 {p : Prop} (h : p := by exact SD.s rfl rfl rfl qX111) : p := h
set_option linter.unusedSimpArgs false
set_option linter.unusedVariables false
set_option maxRecDepth 20000
open Cel (c)

/-! Right, plainly. -/
def hd1 (s : Stt) : Bool := idB s.id && masB s.master s.id && decide (s.known.length ≤ 15)
def hd2 (s : Stt) : Bool := epB s.cur && decide (0 ≤ s.vote) && decide (s.vote ≤ s.cur) && decide (0 ≤ s.cfg) && decide (s.cfg ≤ s.cur)
end Go.Proofs.YtcomjodfkcnjhaaGreatDoor

/- A state as the document has it. -/

namespace Go.Proofs.YtcomjodfkcnjhaaGreatDoor
open Go.Ax
open Cel (c)
theorem qX21 {p : Prop} (h : p := by exact SD.s rfl rfl rfl qP321) : p := h
theorem qX22 {p : Prop} (h : p := by exact SD.s rfl rfl rfl qP34) : p := h
theorem qX23 {p : Prop} (h : p := by first | exact Nat.zero_add 1 | exact (show _ + 1 = _ from qP36) | exact (show _ + 1 = _ + 1 from rfl) | exact rfl) : p := h
theorem qX25 {p : Prop} (h : p := by first | exact Nat.zero_add 2 | exact (show _ + 2 = _ from qP36) | exact (show _ + 2 = _ + 2 from rfl) | exact rfl) : p := h
theorem qX211 {p : Prop} (h : p := by first | exact AStepD.fieldAddr' tok rfl rfl rfl rfl rfl rfl rfl qX23 | exact AStepD.fieldAddr_ip' tok rfl rfl rfl rfl rfl rfl rfl (show List.drop 1 _ = _ from rfl)) : p := h
theorem qX212 {p : Prop} (h : p := by first | exact AStepD.fieldAddr' tok rfl rfl rfl rfl rfl rfl rfl qX25 | exact AStepD.fieldAddr_ip' tok rfl rfl rfl rfl rfl rfl rfl (show List.drop 2 _ = _ from rfl)) : p := h
theorem qX213 {p : Prop} (h : p := by exact SD.s rfl rfl rfl qX211) : p := h
theorem qX214 {p : Prop} (h : p := by exact SD.s rfl rfl rfl qX212) : p := h
set_option linter.unusedSimpArgs false
set_option linter.unusedVariables false
set_option maxRecDepth 20000
open Cel (c)

structure StX (H : AHeap) (S : Nat) (y : AV) (s : Stt) : Prop where
  lt : S < H.next
  get : H.get S = some (.cells 41 (s.cs y))
  kn : Lst 75 (S + 1) H y s.known
end Go.Proofs.YtcomjodfkcnjhaaGreatDoor
