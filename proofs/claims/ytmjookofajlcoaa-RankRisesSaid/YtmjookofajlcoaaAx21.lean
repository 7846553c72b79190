/- The abstract layer, part 21: from a law's abstract call to what its row asks. -/
import Derived.Test.YtmjookofajlcoaaAx20
namespace Go.Ax
open Go.RowKit Go.ChangeShapes Go.WideShapes

/-- An argument of a plain type. -/
def ShV (TT : Nat → TI) (t : TypeId) (a : AV) : Prop := if (TT t).agg then ∃ cs, a = .agg cs ∧ Sh TT t cs else Sh TT t [a]

section
variable {H : Type} {enc : TypeId × Value → H} {P : Program} {TT : Nat → TI} (hT : TOk P TT)
include hT

theorem arg_cv {d : Nat} {t : TypeId} {v : Value} {dat : DataW H} {ps : List MemPlace} {W : World} {base : Nat} {sp : Nat → Bool} (hp : plainT TT d t = true) (hval : Value.okWide P W .any base t v) (h : DataW.Trod enc P W 0 sp true t v dat ps) :
    ∃ a, CV noRho (immOf W) a v ∧ ShV TT t a := by
  obtain ⟨fuel, hf⟩ := h
  obtain ⟨as, hcv, hsh⟩ := sh_of_trod hT d t fuel _ _ hp hf
  have hok := plainT_ok hp
  have hund := (hT t hok).und
  have hag := (hT t hok).agg
  have one : ∀ x : AV, as = [x] → v.cells.toList = [v] → (TT t).agg = false → ∃ a, CV noRho (immOf W) a v ∧ ShV TT t a := by
    rintro x rfl hc ha
    rw [hc] at hcv
    exact ⟨x, hcv.2 0 x v rfl rfl, by simpa [ShV, ha] using hsh⟩
  have hlen := hcv.1
  cases d with
  | zero => cases hp
  | succ d =>
    simp only [plainT, Bool.and_eq_true] at hp
    obtain ⟨_, hp⟩ := hp
    split at hp
    · rename_i hu
      rw [hu] at hund hag
      obtain ⟨b, rfl⟩ := okWide_bool hund hval
      obtain ⟨x, rfl⟩ := List.length_eq_one_iff.1 (show as.length = 1 by simpa [Value.cells] using hlen.symm)
      exact one x rfl rfl hag
    · rename_i hu
      rw [hu] at hund hag
      obtain ⟨b, rfl⟩ := okWide_string hund hval
      obtain ⟨x, rfl⟩ := List.length_eq_one_iff.1 (show as.length = 1 by simpa [Value.cells] using hlen.symm)
      exact one x rfl rfl hag
    · rename_i k hu
      rw [hu] at hund hag
      obtain ⟨b, rfl⟩ := okWide_int hund hval
      obtain ⟨x, rfl⟩ := List.length_eq_one_iff.1 (show as.length = 1 by simpa [Value.cells] using hlen.symm)
      exact one x rfl rfl hag
    · rename_i e hu
      rw [hu] at hund hag
      obtain ⟨a, len, cap, rfl⟩ := okWide_slice hund hval
      obtain ⟨x, rfl⟩ := List.length_eq_one_iff.1 (show as.length = 1 by simpa [Value.cells] using hlen.symm)
      exact one x rfl rfl hag
    · rename_i fs hu
      rw [hu] at hund hag
      simp only [Value.okWide, hund] at hval
      obtain ⟨cs, rfl, _⟩ := hval
      exact ⟨.agg as, by simpa [Value.cells] using CV.agg hcv.1 hcv.2, by simp only [ShV, hag]; exact ⟨as, rfl, hsh⟩⟩
    · rename_i n e hu
      rw [hu] at hund hag
      simp only [Value.okWide, hund] at hval
      obtain ⟨cs, rfl, _⟩ := hval
      exact ⟨.agg as, by simpa [Value.cells] using CV.agg hcv.1 hcv.2, by simp only [ShV, hag]; exact ⟨as, rfl, hsh⟩⟩
    · cases hp

theorem args_cv {d : Nat} {W : World} {base : Nat} {sp : Nat → Bool} : ∀ (ts : List TypeId) (vs : List Value) (ds : List (DataW H)) (ps : List MemPlace), DataW.TrodAll enc P W 0 sp true ts vs ds ps →
    (∀ (i : Nat) t v, ts[i]? = some t → vs[i]? = some v → Value.okWide P W .any base t v) → (∀ t ∈ ts, plainT TT d t = true) →
    ds.length = ts.length ∧ ∃ as, as.length = ts.length ∧ CVs noRho (immOf W) as vs ∧ ∀ (i : Nat) t x, ts[i]? = some t → as[i]? = some x → ShV TT t x
  | [], [], [], _, _, _, _ => ⟨rfl, [], rfl, .nil, by simp⟩
  | t :: ts, v :: vs, dat :: ds, ps, h, hv, hp => by
    obtain ⟨p, q, h1, h2, _⟩ := h
    obtain ⟨a, ha, hs⟩ := arg_cv hT (hp t (by simp)) (hv 0 t v rfl rfl) h1
    obtain ⟨hl, as, h3, h4, h5⟩ := args_cv ts vs ds q h2 (fun i t v hi hj => hv (i + 1) t v (by simpa using hi) (by simpa using hj)) (fun t ht => hp t (by simp [ht]))
    refine ⟨by simp [hl], a :: as, by simp [h3], .cons ha h4, fun i t x hi hx => ?_⟩
    cases i with
    | zero => simp only [List.getElem?_cons_zero, Option.some.injEq] at hi hx; subst hi; subst hx; exact hs
    | succ i => exact h5 i t x (by simpa using hi) (by simpa using hx)
  | [], _ :: _, _, _, h, _, _ => by cases h
  | [], [], _ :: _, _, h, _, _ => by cases h
  | _ :: _, [], _, _, h, _, _ => by cases h
  | _ :: _, _ :: _, [], _, h, _, _ => by cases h

omit hT in
theorem trodAll_below (hl : laidOutB P = true) {W W' : World} (hb : Below W.heap.size W W') : ∀ (ts : List TypeId) (vs : List Value) (ds : List (DataW H)) (ps : List MemPlace), DataW.TrodAll enc P W 0 (fun _ => true) true ts vs ds ps →
    (∀ t ∈ ts, P.readableRec t = true ∧ t < P.types.size) → (∀ x ∈ ps, x.block < W.heap.size) → DataW.TrodAll enc P W' 0 (fun b => decide (b < W.heap.size)) true ts vs ds ps
  | [], [], [], _, h, _, _ => h
  | t :: ts, v :: vs, dat :: ds, ps, h, hp, hlt => by
    obtain ⟨p, q, h1, h2, rfl⟩ := h
    exact ⟨p, q, Below.trod hl (hp t (by simp)).1 (hp t (by simp)).2 h1 hb (fun x hx => hlt x (by simp [hx])), trodAll_below hl hb ts vs ds q h2 (fun t ht => hp t (by simp [ht])) (fun x hx => hlt x (by simp [hx])), rfl⟩
  | [], _ :: _, _, _, h, _, _ => by cases h
  | [], [], _ :: _, _, h, _, _ => by cases h
  | _ :: _, [], _, _, h, _, _ => by cases h
  | _ :: _, _ :: _, [], _, h, _, _ => by cases h

/-- What a row asks of its law, from the law's abstract call. -/
theorem law_contract (hl : laidOutB P = true) {f : FuncId} {fn : Func} {s : ChangeSpec} {ts : List TypeId} (d : Nat) (hts : fn.params.toList = ts) (hplain : (ts.all fun t => plainT TT d t && P.readableRec t && Nat.blt t P.types.size) = true)
    {tb : TypeId} (hrt : fn.resultTypes = #[tb]) (hb : P.underlying tb = some .bool) (hvars : s.vars = []) (hs : ∀ ds : List (DataW H), ds.length = ts.length → (s.fn H ds).results = [.lit (.bool true)] ∧ (s.fn H ds).args = ds ∧ (s.fn H ds).vars = [])
    (law : ∀ as : List AV, as.length = ts.length → (∀ (i : Nat) t x, ts[i]? = some t → as[i]? = some x → ShV TT t x) → ACalls P f as AHeap.empty fun r _ => r = .v (.bool true))
    {W : World} {base : Nat} {args : Array Value} {ds gs : List (DataW H)} {before : List MemPlace} (hval : ∀ (j : Nat) t v, fn.params[j]? = some t → args[j]? = some v → Value.okWide P W .any base t v)
    (hW : DataW.Whole enc P fn.params.toList s.vars false W args.toList ds gs before) :
    Calls P f args W fun e W' => ∃ v, e = .returned v ∧ s.post enc P fn false true false false W args v W' := by
  subst hts
  have hW' := hW
  obtain ⟨p, q, hA, hV, rfl, hfz, hnd⟩ := hW
  rw [hvars] at hV
  have hgs : gs = [] ∧ q = [] := by
    cases gs with
    | nil => exact ⟨rfl, hV⟩
    | cons => cases hV
  obtain ⟨rfl, rfl⟩ := hgs
  have hpl : ∀ t ∈ fn.params.toList, plainT TT d t = true ∧ P.readableRec t = true ∧ t < P.types.size := by
    intro t ht
    have := List.all_eq_true.1 hplain t ht
    simp only [Bool.and_eq_true] at this
    exact ⟨this.1.1, this.1.2, Eq.mp Nat.blt_eq this.2⟩
  obtain ⟨hdl, as, h1, h2, h3⟩ := args_cv hT (d := d) (base := base) _ _ _ _ hA (fun i t v hi hj => hval i t v (by simpa using hi) (by simpa using hj)) (fun t ht => (hpl t ht).1)
  have hc := calls_of_acalls (law as h1 h3) h2
  simp only [Array.toArray_toList] at hc
  refine hc.mono fun e W' ⟨he, hbel⟩ => ?_
  subst he
  obtain ⟨r1, r2, r3⟩ := hs ds hdl
  have hlt : ∀ x ∈ p, x.block < W.heap.size := fun x hx => by simpa using hW'.lt x (by simpa using hx)
  refine ⟨_, rfl, ds, [], p ++ [], [], p, [], hW', ?_, ?_, ?_, hbel.frame _, fun h => by cases h⟩
  · rw [List.append_nil, r1, hrt]
    exact trodAll_mk1 (shut_bool hb true)
  · rw [List.append_nil, r2]
    exact trodAll_below hl hbel _ _ _ _ hA (fun t ht => (hpl t ht).2) hlt
  · rw [List.append_nil, r3, hvars]
    rfl
end
end Go.Ax
