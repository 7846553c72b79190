/- The abstract layer, part 27: slices that are made. -/
import Derived.Test.YtmjookofajlcoaaAx26
namespace Go.Ax
section
variable {P : Program} {o : Oper} {T : Fr} {H : AHeap} {TT : Nat → TI} (hT : TOk P TT)
include hT
theorem AStepD.makeSlice {t e : TypeId} {x y : Operand} {n k : Nat} {kl kc : IntKind} {i j : Int} (ho : o.op = .makeSlice t x y) (hx : aev T x = .v (.int kl i)) (hy : aev T y = .v (.int kc j)) (hi : i = (n : Int)) (hj : j = (n : Int)) (hok : (TT t).ok = true) (hu : (TT t).und = .slice e) (hoke : (TT e).ok = true) (hk : (TT e).size = k)
    (hb : (TT e).bytes * n ≤ 281474976710656) (hm : n ≤ 9223372036854775807) : AStepD P o T H (.sl H.next 0 n k) (H.new (.cells e (zerosA (TT e).zero n))) := by
  subst hk; subst hi; subst hj
  refine AStep.of_run fun ρ I w a hc ht => ?_
  have h1 := cv_v (aev_eq ht hx)
  have h2 := cv_v (aev_eq ht hy)
  obtain ⟨f, hf, hf1, hf2, hf3⟩ := (hT e hoke).info
  have hz := (hT e hoke).zs
  have hw : IntKind.i64.wrap (n : Int) = n := by rw [IntKind.wrap_i64]; omega
  have hbi : ¬ ((281474976710656 : Int) < (f.bytes : Int) * (n : Int)) := by
    rw [hf3, ← Int.natCast_mul]
    omega
  have hask : ∀ m w', (askRoom m).run P w' = .ok () w' := fun m w' => by unfold askRoom; split <;> simp [mark, Sem.run]
  let arr : Array Value := (Array.range (n * (TT e).size)).map fun i => (if n * (TT e).size = 0 then #[] else (TT e).zero.cells)[i % (if n * (TT e).size = 0 then #[] else (TT e).zero.cells).size]!
  obtain ⟨hc', ev⟩ := hc.alloc (ty := e) (cs := zerosA (TT e).zero n) (arr := arr) (by simp [zerosA, hz, arr]) (fun i x u hx hu => by
    simp only [zerosA, List.getElem?_map] at hx
    have hil : i < n * (TT e).zero.cells.size := by
      cases hr : (List.range (n * (TT e).zero.cells.size))[i]? with
      | none => rw [hr] at hx; cases hx
      | some q => have := (List.getElem?_eq_some_iff.1 hr).1; simpa using this
    have hn0 : ¬ n * (TT e).size = 0 := by rw [← hz]; omega
    rw [List.getElem?_range hil] at hx
    simp only [Option.map_some, Option.some.injEq] at hx
    subst hx
    have hil2 : i < n * (TT e).size := by rw [← hz]; exact hil
    simp only [arr, if_neg hn0, Array.getElem?_map, Array.getElem?_range, hil2, if_true, Option.map_some, Option.some.injEq] at hu
    subst hu
    exact .v _)
  refine ⟨.slice (some ⟨w.heap.size, 0, none⟩) n n, _, _, _, _, _, ?_, ⟨rfl, rfl⟩, .sl (B := ⟨w.heap.size, _⟩) (by simp [Rho.new]; rfl) (Nat.le_refl _) hm (by simp [arr]), hc', ev⟩
  have hnn : ¬ ((n : Int) < 0) := by omega
  by_cases h0 : n * (TT e).size = 0
  · simp [execOp, ho, Instr.makeSlice, (hT t hok).run_und w, hu, h1, h2, asInt, asIntOf, typeInfo, hf, hw, hbi, hask, (hT e hoke).run_size, h0, newRow, newObj, Sem.run, Result.andThen, arr]
    rw [if_neg hnn]
  · simp [execOp, ho, Instr.makeSlice, (hT t hok).run_und w, hu, h1, h2, asInt, asIntOf, typeInfo, hf, hw, hbi, hask, (hT e hoke).run_size, h0, (hT e hoke).run_zero, newRow, newObj, Sem.run, Result.andThen, arr]
    rw [if_neg hnn]
end
end Go.Ax
