/- A guard's truth, handed on: a proof that reads it. -/
import Derived.Test.YtmjookofajlcoaaAx28
namespace Go.Ax
open Go
theorem gpf {g p : Prop} (hb : g) (h : g → p := by intro hb; first | (rw [hb]; done) | (rw [hb]; rfl) | (simp [hb]; done) | (simp_all; done) | exact guard_true hb) : p := h hb
end Go.Ax
