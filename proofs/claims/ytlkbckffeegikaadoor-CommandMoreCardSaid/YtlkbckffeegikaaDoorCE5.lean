/- The abstract layer, part 38: from a law's abstract call to what its row asks, where the law's sizes lean on what came in. -/
import Derived.Test.YtlkbckffeegikaaDoorCE4
set_option linter.unusedSimpArgs false
set_option linter.unusedVariables false
namespace Go.Ax
open Cel (c)
set_option linter.unusedSectionVars false
variable [Tabs]
open Go
open Go.RowKit Go.ChangeShapes Go.WideShapes

section
variable {H : Type} {enc : TypeId × Value → H} {P : Program} {TT : Nat → TI} (hT : TOk P TT)
include hT

/-- As law_contract: the law may look at the values that came in. -/
theorem law_contractV (hl : laidOutB P = true) {f : FuncId} {fn : Func} {s : ChangeSpec} {ts : List TypeId} (d : Nat) (hts : fn.params.toList = ts) (hplain : (ts.all fun t => plainT TT d t && P.readableRec t && Nat.blt t P.types.size) = true)
    {tb : TypeId} (hrt : fn.resultTypes = #[tb]) (hb : P.underlying tb = some .bool) (hvars : s.vars = []) (hs : ∀ ds : List (DataW H), ds.length = ts.length → (s.fn H ds).results = [.lit (.bool true)] ∧ (s.fn H ds).args = ds ∧ (s.fn H ds).vars = [])
    
    {W : World} {base : Nat} {args : Array Value} (law : ∀ zs : List AV, zs.length = ts.length → (∀ (i : Nat) t x, ts[i]? = some t → zs[i]? = some x → ShV TT t x) → CVs noRho (immOf W) zs args.toList → ACalls P f zs AHeap.empty fun r _ => r = .v (.bool true))
    {ds gs : List (DataW H)} {before : List MemPlace} (hval : ∀ (j : Nat) t v, fn.params[j]? = some t → args[j]? = some v → Value.okWide P W .any base t v)
    (hW : DataW.Whole enc P fn.params.toList s.vars false W args.toList ds gs before) (hg : GlobOK W := by exact fun _ _ h => by cases h) :
    Calls P f args W fun e W' => ∃ v, e = .returned v ∧ s.post enc P fn false true false false W args v W' := by
  subst hts
  have hW' := hW
  obtain ⟨p, q, hA, hV, rfl, hfz, hnd⟩ := hW
  rw [hvars] at hV
  have hgs : gs = [] ∧ q = [] := by
    cases gs with
    | nil => exact ⟨rfl, hV⟩
    | cons => cases hV
  obtain ⟨rfl, rfl⟩ := hgs
  have hpl : ∀ t ∈ fn.params.toList, plainT TT d t = true ∧ P.readableRec t = true ∧ t < P.types.size := by
    intro t ht
    have := List.all_eq_true.1 hplain t ht
    simp only [Bool.and_eq_true] at this
    exact ⟨this.1.1, this.1.2, Eq.mp Nat.blt_eq this.2⟩
  obtain ⟨hdl, zs, h1, h2, h3⟩ := args_cv hT (d := d) (base := base) _ _ _ _ hA (fun i t v hi hj => hval i t v (by simpa using hi) (by simpa using hj)) (fun t ht => (hpl t ht).1)
  have hc := calls_of_acalls (law zs h1 h3 h2) hg h2
  simp only [Array.toArray_toList] at hc
  refine hc.mono fun e W' ⟨he, hbel⟩ => ?_
  subst he
  obtain ⟨r1, r2, r3⟩ := hs ds hdl
  have hlt : ∀ x ∈ p, x.block < W.heap.size := fun x hx => by simpa using hW'.lt x (by simpa using hx)
  refine ⟨_, rfl, ds, [], p ++ [], [], p, [], hW', ?_, ?_, ?_, hbel.frame _, fun h => by cases h⟩
  · rw [List.append_nil, r1, hrt]
    exact trodAll_mk1 (shut_bool hb true)
  · rw [List.append_nil, r2]
    exact trodAll_below hl hbel _ _ _ _ hA (fun t ht => (hpl t ht).2) hlt
  · rw [List.append_nil, r3, hvars]
    rfl
end
end Go.Ax
