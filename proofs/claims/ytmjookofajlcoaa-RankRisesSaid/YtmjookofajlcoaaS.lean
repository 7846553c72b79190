/- The comparison that the ranks are sorted by. -/
import Derived.Test.YtmjookofajlcoaaL
import Derived.Test.YtmjookofajlcoaaChecked
import Derived.WalkKit
import Derived.Handy
import Derived.Deep.RegionHeld
import Derived.Shelf.RegionOpen
namespace Go.Proofs.Ytmjookofajlcoaa
open Go.Shelf Go.RowKit Go.Lib Go.Sort

def orI (x y : Int) : Int := if x = 0 then y else x
theorem cmpOr (b : Nat) (x y : Int) (W : World) (h0 : W.cell? ⟨b, 0, none⟩ = some (.int .i64 x)) (h1 : W.cell? ⟨b, 1, none⟩ = some (.int .i64 y)) :
    Calls Try.prog 28 #[.slice (some ⟨b, 0, none⟩) 2 2] W fun e w' => e = .returned (.int .i64 (orI x y)) ∧ w' = W := by
  go_enter Try.func28, Try.ntmps28
  go_wp2
  go_rounds 3
  all_goals (go_ret; simp_all [orI])

set_option maxHeartbeats 600000 in
theorem before (a b c d : Int) (W : World) : Calls Try.prog 20 #[.agg #[.int .i64 a, .int .i64 b], .agg #[.int .i64 c, .int .i64 d]] W fun e w' =>
    e = .returned (.int .i64 (orI (compareInt d b) (compareInt a c))) ∧ ∃ q os', w' = grow (W.drewN q) os' := by
  have hcon := fun a b W' => AnyG.cmp_Compare_int cmpInt a b W'
  change ∀ a b W', Calls Try.prog 29 _ _ _ at hcon
  have mixed : Try.prog.follows .mixedOrders = true := by kernel_rfl
  generalize compareInt = f at hcon ⊢
  go_enter Try.func20, Try.ntmps20
  go_wp2_with (fail)
  generalize hW1 : (W.alloc (Obj.cells #[.int .i64 a, .int .i64 b] 29)).alloc (Obj.cells #[.int .i64 c, .int .i64 d] 29) = W1
  have hs : W1.heap.size = W.heap.size + 1 + 1 := by rw [← hW1]; simp
  have g0 : W1.cell? ⟨W.heap.size, 0, none⟩ = some (.int .i64 a) := by rw [← hW1]; simp
  have g1 : W1.cell? ⟨W.heap.size, 1, none⟩ = some (.int .i64 b) := by rw [← hW1]; simp
  have g2 : W1.cell? ⟨W.heap.size + 1, 0, none⟩ = some (.int .i64 c) := by rw [← hW1]; simp
  have g3 : W1.cell? ⟨W.heap.size + 1, 1, none⟩ = some (.int .i64 d) := by rw [← hW1]; simp
  have hor : ∀ r1 r2 : Int, Calls Try.prog 28 #[.slice (some ⟨W.heap.size + 1 + 1, 0, none⟩) 2 2] ((W1.alloc (Obj.cells #[.int .i64 r1, .int .i64 r2] 3)).drew)
      fun e w' => e = .returned (.int .i64 (orI r1 r2)) ∧ w' = ((W1.alloc (Obj.cells #[.int .i64 r1, .int .i64 r2] 3)).drew) := by
    intro r1 r2
    refine cmpOr _ _ _ _ ?_ ?_
    · show (W1.alloc (Obj.cells #[.int .i64 r1, .int .i64 r2] 3)).cell? ⟨W.heap.size + 1 + 1, 0, none⟩ = _
      rw [← hs]; simp
    · show (W1.alloc (Obj.cells #[.int .i64 r1, .int .i64 r2] 3)).cell? ⟨W.heap.size + 1 + 1, 1, none⟩ = _
      rw [← hs]; simp
  go_region_held (fun w' => w'.cell? ⟨W.heap.size, 0, none⟩ = some (.int .i64 a) ∧ w'.cell? ⟨W.heap.size, 1, none⟩ = some (.int .i64 b) ∧ w'.cell? ⟨W.heap.size + 1, 0, none⟩ = some (.int .i64 c) ∧ w'.cell? ⟨W.heap.size + 1, 1, none⟩ = some (.int .i64 d)) (go_keep)
    (first | (go_at_call 29; refine (hcon _ _ _).mono ?_; rintro e w' ⟨rfl, rfl⟩) | (go_at_call 28; refine (hor _ _).mono ?_; rintro e w' ⟨rfl, rfl⟩))
  go_wp2
  go_ret
  refine ⟨rfl, 1, #[Obj.cells #[.int .i64 a, .int .i64 b] 29, Obj.cells #[.int .i64 c, .int .i64 d] 29, Obj.cells #[.int .i64 (f d b), .int .i64 (f a c)] 3], ?_⟩
  rw [← hW1, alloc_eq_grow, alloc_eq_grow, alloc_eq_grow, grow_grow, grow_grow]
  rfl
end Go.Proofs.Ytmjookofajlcoaa
