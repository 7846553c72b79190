/- The abstract layer, part 15: an obligation of a region that draws, with all it names written out. -/
import Derived.Test.YtmjookofajlcoaaAx14
namespace Go.Ax

theorem Src.all {H : AHeap} {l n k : Nat} {ty : TypeId} {cs : List AV} (h : H.get l = some (.cells ty cs)) (hl : cs.length = n * k) : Src H k (.sl l 0 n k) n cs := by
  have := Src.sl (off := 0) h (by omega : 0 + n * k ≤ cs.length)
  rwa [List.drop_zero, List.take_of_length_le (by omega)] at this

theorem restr_nil {T : Fr} : restr [] T = [] := rfl
theorem restr_cons {s : Nat} {L : List Nat} {T F : Fr} {a : AV} (h : look T s = a) (hr : restr L T = F) : restr (s :: L) T = (s, a) :: F := by
  subst h; subst hr; rfl

theorem Ob.mk {P : Program} {ops : Array Oper} {n : Nat} {T : Fr} {vs : List AV} {effs : List Nat} {hs : List AHeap} {i k : Nat} (o : Oper) (L : List Nat) (k' : Nat) {F : Fr} (ho : ops[i]? = some o) (hL : o.looksAt ops = L)
    (hF : restr L (frameAt T (ops.toList.take i) vs) = F) (hk : (bif effs.contains i then k + 1 else k) = k') (g : GStep P ops n o F (hs.getD k AHeap.empty) (vs.getD i .any) (hs.getD k' AHeap.empty)) : Ob P ops n T vs effs hs (i, k) := by
  subst hF; subst hL; subst hk
  simp only [Ob, ho]
  exact g
end Go.Ax
