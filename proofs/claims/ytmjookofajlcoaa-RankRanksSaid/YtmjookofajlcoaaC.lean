/- The walks of Collect, SortFunc, SortedFunc, and the order as a plain function. -/
import Derived.Test.YtmjookofajlcoaaB
namespace Go.Proofs.Ytmjookofajlcoaa
open Go.Ax
open Cel (c)
set_option linter.unusedSimpArgs false
set_option linter.unusedVariables false

/-! ### The plain order -/
def ahead (a b : Rep) : Bool := decide (b.off < a.off) || (decide (a.off = b.off) && decide (a.id < b.id))
def ins (a : Rep) : List Rep → List Rep
  | [] => [a]
  | b :: r => if ahead a b then a :: b :: r else b :: ins a r
def ordR : List Rep → List Rep
  | [] => []
  | a :: r => ins a (ordR r)
def Stands (l : List Rep) : Prop := l.Pairwise fun a b => ahead b a = false

theorem ahead_iff (a b : Rep) : ahead a b = true ↔ b.off < a.off ∨ a.off = b.off ∧ a.id < b.id := by simp [ahead]
theorem ahead_no (a b : Rep) : ahead a b = false ↔ a.off < b.off ∨ a.off = b.off ∧ b.id ≤ a.id := by
  rw [← Bool.not_eq_true, ahead_iff]; omega
theorem ahead_both {a b : Rep} (h1 : ahead a b = false) (h2 : ahead b a = false) : a = b := by
  rw [ahead_no] at h1 h2
  cases a; cases b; simp only [Rep.mk.injEq] at *; omega
theorem ins_perm (a : Rep) : ∀ l, (ins a l).Perm (a :: l)
  | [] => .refl _
  | b :: r => by
    simp only [ins]
    split
    · exact .refl _
    · exact ((ins_perm a r).cons b).trans (.swap a b r)
theorem ord_perm : ∀ l, (ordR l).Perm l
  | [] => .refl _
  | a :: r => (ins_perm a _).trans ((ord_perm r).cons a)
theorem ins_stands (a : Rep) : ∀ l, Stands l → Stands (ins a l)
  | [], _ => by simp [Stands, ins]
  | b :: r, h => by
    have hb := List.pairwise_cons.1 h
    simp only [ins]
    split
    · rename_i hab
      refine List.pairwise_cons.2 ⟨fun x hx => ?_, h⟩
      rw [ahead_iff] at hab
      rcases List.mem_cons.1 hx with rfl | hx
      · rw [ahead_no]; omega
      · have := hb.1 x hx; rw [ahead_no] at this ⊢; omega
    · rename_i hab
      refine List.pairwise_cons.2 ⟨fun x hx => ?_, ins_stands a r hb.2⟩
      rcases List.mem_cons.1 ((ins_perm a r).mem_iff.1 hx) with rfl | hx
      · simpa using hab
      · exact hb.1 x hx
theorem ord_stands : ∀ l, Stands (ordR l)
  | [] => List.Pairwise.nil
  | a :: r => ins_stands a _ (ord_stands r)
theorem ord_unique {l m : List Rep} (hp : m.Perm l) (hs : Stands m) : m = ordR l :=
  List.Perm.eq_of_pairwise (le := fun a b => ahead b a = false) (fun a b _ _ h1 h2 => ahead_both h2 h1) hs (ord_stands l) (hp.trans (ord_perm l).symm)
theorem ord_length (l : List Rep) : (ordR l).length = l.length := (ord_perm l).length_eq

theorem collect_calls (H : AHeap) (l : List Rep) (gf : FuncId) (lb : List AV) (pr : Nat → Prop) (he : Enters Try.prog gf) (hs : ASeq Try.prog gf lb (l.map fun r => .agg (c r)) pr H) (hlen : l.length ≤ 8000000) :
    ACalls Try.prog 25 [.func (.func gf) lb] H (fun y H' => Lst 29 H.next H' y l ∧ (∀ q, q < H.next → ¬ pr q → H'.get q = H.get q) ∧ H.next ≤ H'.next) := by
  refine ACalls.of_body tok Try.func25 rfl Try.ntmps25 (Nat.le_of_ble_eq_true rfl) (fun base => ?_)
  refine AW.seq_region (fun K hK => ?_)
  refine AL.step rfl rfl rfl qA13 ?_
  refine AL.nil_then (hK _ _ ?_); clear hK K
  refine AW.seq_region (fun K hK => ?_)
  refine AL.step rfl rfl rfl qA16 ?_
  refine AL.call rfl rfl rfl (AStep.callf rfl en30 (appendSeq_calls H l gf lb pr he hs hlen)) ?_
  rintro y H' ⟨h1, h2, h3⟩
  refine AL.step rfl rfl rfl qA13 ?_
  refine AL.nil_then (hK _ _ ?_); clear hK K
  refine AW.ret (RetQ.mk (.inr rfl) (retA_tmp rfl qA1 retA_nil) ⟨h1, h2, h3⟩)
end Go.Proofs.Ytmjookofajlcoaa
