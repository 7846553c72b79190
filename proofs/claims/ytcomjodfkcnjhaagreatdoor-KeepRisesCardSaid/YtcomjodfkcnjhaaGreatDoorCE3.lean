/- The abstract layer, part 25: maps whose keys are integers. -/
import Derived.Test.YtcomjodfkcnjhaaGreatDoorCE2
import Derived.MapKept
import Derived.Laws.StructEq
import Derived.Below
import Derived.Sort.Row
import Derived.Sort.Grow
set_option linter.unusedSimpArgs false
set_option linter.unusedVariables false
namespace Go.Ax
set_option linter.unusedSectionVars false
variable [Tabs]

def imap (k : IntKind) (es : List (Int × AV)) : List (Value × AV) := es.map fun p => (.int k p.1, p.2)
def getI (es : List (Int × AV)) (n : Int) : Option AV :=
  match es with
  | [] => none
  | p :: r => if p.1 = n then some p.2 else getI r n
def putI (es : List (Int × AV)) (n : Int) (v : AV) : List (Int × AV) :=
  match es with
  | [] => [(n, v)]
  | p :: r => if p.1 = n then (n, v) :: r else p :: putI r n v
def delI (es : List (Int × AV)) (n : Int) : List (Int × AV) :=
  match es with
  | [] => []
  | p :: r => if p.1 = n then r else p :: delI r n

theorem findNow_int {k : IntKind} {n : Int} : ∀ (es : List (Int × AV)) (ents : List MapEntry) (i : Nat), ents.length = es.length → (∀ (i : Nat) e en, es[i]? = some e → ents[i]? = some en → en.key = .int k e.1) →
    (Instr.findNow (.int k) (.int k n) ents i = some none ∧ getI es n = none ∧ (∀ v, putI es n v = es ++ [(n, v)]) ∧ delI es n = es) ∨
    ∃ j en a, Instr.findNow (.int k) (.int k n) ents i = some (some (i + j, en.val)) ∧ ents[j]? = some en ∧ en.key = .int k n ∧ es[j]? = some (n, a) ∧ getI es n = some a ∧ (∀ v, putI es n v = es.set j (n, v)) ∧ delI es n = es.eraseIdx j
  | [], [], i, _, _ => .inl ⟨rfl, rfl, fun _ => rfl, rfl⟩
  | [], e :: es, i, h, _ => by simp at h
  | p :: r, [], i, h, _ => by simp at h
  | p :: r, en :: ents, i, h, hk => by
    have h0 := hk 0 p en rfl rfl
    by_cases hp : p.1 = n
    · refine .inr ⟨0, en, p.2, ?_, rfl, by rw [h0, hp], by rw [← hp]; rfl, by simp [getI, hp], fun v => by simp [putI, hp], by simp [delI, hp]⟩
      simp [Instr.findNow, Instr.sameNow, h0, hp]
    · have hs : Instr.sameNow (.int k) (.int k n) en.key = some false := by
        simp [Instr.sameNow, h0]
        exact fun e => hp e.symm
      rcases findNow_int (n := n) r ents (i + 1) (by simpa using h) (fun i e en' h1 h2 => hk (i + 1) e en' (by simpa using h1) (by simpa using h2)) with ⟨h1, h2, h3, h4⟩ | ⟨j, en', a, h1, h2, h3, h4, h5, h6, h7⟩
      · refine .inl ⟨?_, by simp [getI, hp, h2], fun v => by simp [putI, hp, h3], by simp [delI, hp, h4]⟩
        simp only [Instr.findNow, hs, h1]
      · refine .inr ⟨j + 1, en', a, ?_, by simpa using h2, h3, by simpa using h4, by simp [getI, hp, h5], fun v => by simp [putI, hp, h6], by simp [delI, hp, h7]⟩
        simp only [Instr.findNow, hs, h1]
        congr 3
        omega

theorem map_eraseIdxA {α β : Type} (f : α → β) : ∀ (l : List α) (j : Nat), (l.map f).eraseIdx j = (l.eraseIdx j).map f
  | [], _ => by simp
  | _ :: _, 0 => by simp
  | a :: r, j + 1 => by simp [map_eraseIdxA f r j]
theorem imap_get {k : IntKind} {es : List (Int × AV)} {i : Nat} {e : Int × AV} (h : es[i]? = some e) : (imap k es)[i]? = some (.int k e.1, e.2) := by simp [imap, h]

section
variable {P : Program} {o : Oper} {T : Fr} {H : AHeap} {TT : Nat → TI} (hT : TOk P TT)
include hT

omit hT in
theorem AStepD.makeMap {t : TypeId} (ho : o.op = .makeMap t none) : AStepD P o T H (.map H.next) (H.new (.map [])) := by
  refine AStep.of_run fun ρ I w a hc ht => ?_
  obtain ⟨hc', ev⟩ := hc.new (o := .map []) (w' := w.alloc (.map #[] 0)) 0 (by simp) (fun k hk => RowKit.Below.heap_alloc w _ k hk) ⟨#[], 0, heap_alloc_new w _, rfl, by simp, by simp, by simp⟩ rfl rfl rfl
  refine ⟨.map (some w.heap.size), _, _, _, _, _, ?_, ⟨rfl, rfl⟩, .map (B := ⟨w.heap.size, 0⟩) (by simp [Rho.new]), hc', ev⟩
  simp [execOp, ho, Instr.makeMap, newObj, Sem.run]

theorem AStepD.lookup {t kt et : TypeId} {x y : Operand} {l : Nat} {k : IntKind} {n : Int} {es : List (Int × AV)} {g : Option AV} (ho : o.op = .lookup t x y true) (hx : aev T x = .map l) (hy : aev T y = .v (.int k n)) (hok : (TT t).ok = true) (hu : (TT t).und = .map kt et)
    (hokk : (TT kt).ok = true) (huk : (TT kt).und = .int k) (hoke : (TT et).ok = true) (hH : H.get l = some (.map (imap k es))) (hg : getI es n = g) : AStepD P o T H (.tup [g.getD (.v (TT et).zero), .v (.bool g.isSome)]) H := by
  subst hg
  refine .of_pure fun ρ I w a hc ht => ?_
  have hv := aev_eq ht hx
  have hyv := cv_v (aev_eq ht hy)
  generalize he : a.eval x = u at hv
  cases hv with
  | @map _ B hB =>
    obtain ⟨B', hB', _, ents, clock, h1, h2, h3, h4, h5⟩ := hc.obj l _ hH
    rw [hB] at hB'; cases hB'
    have hkey : MapKept.IsKey (.int k) (.int k n) := by simp [MapKept.IsKey]
    have hd : P.underlying kt = some (.int k) := by rw [(hT kt hokk).und, huk]
    have hes : ∀ (i : Nat) e en, es[i]? = some e → ents.toList[i]? = some en → en.key = .int k e.1 := fun i e en q1 q2 => (h3 i _ en (imap_get q1) (by simpa using q2)).1
    rcases findNow_int (n := n) es ents.toList 0 (by simpa [imap] using h2) hes with ⟨f1, f2, -, -⟩ | ⟨j, en, b, f1, f2, f3, f4, f5, -, -⟩
    · refine ⟨.tuple #[(TT et).zero, .bool false], ?_, ?_⟩
      · simp [execOp, ho, he, hyv, Instr.lookup, (hT t hok).run_und w, hu, MapKept.run_getObj_map h1, MapKept.run_checkKey hd hkey, MapKept.run_findKey hd f1, (hT et hoke).run_zero w, Result.andThen]
      · rw [f2]
        exact CV.tup (vs := [_, _]) rfl fun i a u ha hu => by
          match i with
          | 0 => simp at ha hu; subst ha; subst hu; exact .v _
          | 1 => simp at ha hu; subst ha; subst hu; exact .v _
          | i + 2 => simp at ha
    · refine ⟨.tuple #[en.val, .bool true], ?_, ?_⟩
      · simp [execOp, ho, he, hyv, Instr.lookup, (hT t hok).run_und w, hu, MapKept.run_getObj_map h1, MapKept.run_checkKey hd hkey, MapKept.run_findKey hd f1, Result.andThen]
      · rw [f5]
        have := (h3 j _ en (imap_get f4) (by simpa using f2)).2
        exact CV.tup (vs := [_, _]) rfl fun i a u ha hu => by
          match i with
          | 0 => simp at ha hu; subst ha; subst hu; exact this
          | 1 => simp at ha hu; subst ha; subst hu; exact .v _
          | i + 2 => simp at ha

theorem AStepD.mapUpdate {t kt et : TypeId} {x y z : Operand} {l : Nat} {k : IntKind} {n : Int} {es es' : List (Int × AV)} {v : AV} (ho : o.op = .mapUpdate t x y z) (hx : aev T x = .map l) (hy : aev T y = .v (.int k n)) (hz : aev T z = v) (hok : (TT t).ok = true) (hu : (TT t).und = .map kt et)
    (hokk : (TT kt).ok = true) (huk : (TT kt).und = .int k) (hH : H.get l = some (.map (imap k es))) (hes' : putI es n v = es') : AStepD P o T H .any (H.set l (.map (imap k es'))) := by
  subst hes'; subst hz
  refine AStep.of_skip fun ρ I w a hc ht => ?_
  have hv := aev_eq ht hx
  have hyv := cv_v (aev_eq ht hy)
  have hzv := aev_cv ht z
  generalize he : a.eval x = u at hv
  cases hv with
  | @map _ B hB =>
    obtain ⟨B', hB', _, ents, clock, h1, h2, h3, h4, h5⟩ := hc.obj l _ hH
    rw [hB] at hB'; cases hB'
    have hkey : MapKept.IsKey (.int k) (.int k n) := by simp [MapKept.IsKey]
    have hd : P.underlying kt = some (.int k) := by rw [(hT kt hokk).und, huk]
    have hlt : B.b < w.heap.size := (Array.getElem?_eq_some_iff.1 h1).1
    have hes : ∀ (i : Nat) e en, es[i]? = some e → ents.toList[i]? = some en → en.key = .int k e.1 := fun i e en q1 q2 => (h3 i _ en (imap_get q1) (by simpa using q2)).1
    have hl2 : ents.size = es.length := by simpa [imap] using h2
    rcases findNow_int (n := n) es ents.toList 0 (by simpa [imap] using h2) hes with ⟨f1, f2, f3, -⟩ | ⟨j, en, b, f1, f2, f3, f4, f5, f6, -⟩
    · rw [f3]
      obtain ⟨hc', ev⟩ := hc.set (o' := .map (imap k (es ++ [(n, aev T z)]))) hH hB (w' := { w with heap := w.heap.setIfInBounds B.b (.map (ents.push ⟨.int k n, a.eval z, clock⟩) (clock + 1)) }) (by simp) (fun q hq => by simp [Ne.symm hq])
        ⟨ents.push ⟨.int k n, a.eval z, clock⟩, clock + 1, by simp [hlt], by simp [imap, hl2], fun i e en q1 q2 => by
          by_cases hi : i < es.length
          · rw [Array.getElem?_push_lt (by omega)] at q2
            simp only [imap, List.map_append] at q1
            rw [List.getElem?_append_left (by simpa using hi)] at q1
            exact h3 i e en q1 (by simpa [hl2, hi] using q2)
          · simp only [imap, List.map_append] at q1
            rw [List.getElem?_append_right (by simp; omega)] at q1
            have h0 : i - (es.map fun p => ((Value.int k p.1, p.2) : Value × AV)).length = 0 := by
              have := (List.getElem?_eq_some_iff.1 q1).1
              simp at this ⊢; omega
            rw [h0] at q1
            simp at q1 h0
            have : i = ents.size := by omega
            subst this
            simp at q2
            subst q1; subst q2
            exact ⟨rfl, hzv⟩, fun i en q => by
          by_cases hi : i < ents.size
          · rw [Array.getElem?_push_lt hi] at q
            have := h4 i en (by simpa [hi] using q)
            omega
          · have : i = ents.size := by have := (Array.getElem?_eq_some_iff.1 q).1; simp at this; omega
            subst this
            simp at q
            subst q
            simp, fun i j x y q1 q2 hxy => by
          have ci : i < ents.size ∨ i = ents.size := by have := (Array.getElem?_eq_some_iff.1 q1).1; simp at this; omega
          have cj : j < ents.size ∨ j = ents.size := by have := (Array.getElem?_eq_some_iff.1 q2).1; simp at this; omega
          rcases ci with ci | rfl <;> rcases cj with cj | rfl
          · rw [Array.getElem?_push_lt ci] at q1
            rw [Array.getElem?_push_lt cj] at q2
            exact h5 i j x y (by simpa [ci] using q1) (by simpa [cj] using q2) hxy
          · rw [Array.getElem?_push_lt ci] at q1
            simp at q2
            subst q2
            have := h4 i x (by simpa [ci] using q1)
            simp at hxy; omega
          · rw [Array.getElem?_push_lt cj] at q2
            simp at q1
            subst q1
            have := h4 j y (by simpa [cj] using q2)
            simp at hxy; omega
          · rfl⟩ rfl rfl rfl
      refine ⟨_, ρ, I, _, ?_, ⟨rfl, rfl⟩, hc', ev⟩
      simp [execOp, ho, he, hyv, Instr.mapUpdate, (hT t hok).run_und w, hu, MapKept.run_getObj_map h1, MapKept.run_checkKey hd hkey, MapKept.run_findKey hd f1, MapKept.run_setObj_map _ h1, Result.andThen]
    · rw [f6]
      have hj : ents[j]? = some en := by simpa using f2
      have hjl : j < ents.size := (Array.getElem?_eq_some_iff.1 hj).1
      have hmod : ∀ (i : Nat) x, (ents.modify j fun e => { e with key := .int k n, val := a.eval z })[i]? = some x → ∃ y, ents[i]? = some y ∧ x.born = y.born ∧ (i ≠ j → x = y) ∧ (i = j → x.key = .int k n ∧ x.val = a.eval z) := by
        intro i x q
        rw [Array.getElem?_modify] at q
        split at q
        · rename_i e
          subst e
          rw [hj] at q
          simp at q
          subst q
          exact ⟨en, hj, rfl, fun h => (h rfl).elim, fun _ => ⟨rfl, rfl⟩⟩
        · rename_i e
          exact ⟨x, q, rfl, fun _ => rfl, fun h => (e h.symm).elim⟩
      obtain ⟨hc', ev⟩ := hc.set (o' := .map (imap k (es.set j (n, aev T z)))) hH hB (w' := { w with heap := w.heap.setIfInBounds B.b (.map (ents.modify j fun e => { e with key := .int k n, val := a.eval z }) clock) }) (by simp) (fun q hq => by simp [Ne.symm hq])
        ⟨ents.modify j fun e => { e with key := .int k n, val := a.eval z }, clock, by simp [hlt], by simp [imap, hl2], fun i e en' q1 q2 => by
          obtain ⟨y', hy', hb', hne, heq⟩ := hmod i en' q2
          by_cases hij : i = j
          · subst hij
            simp only [imap, List.map_set] at q1
            rw [List.getElem?_set_self (by simp; omega)] at q1
            simp at q1
            subst q1
            exact ⟨(heq rfl).1, by rw [(heq rfl).2]; exact hzv⟩
          · simp only [imap, List.map_set] at q1
            rw [List.getElem?_set_ne (Ne.symm hij)] at q1
            rw [hne hij]
            exact h3 i e y' q1 hy', fun i en' q => by
          obtain ⟨y', hy', hb', _⟩ := hmod i en' q
          rw [hb']
          exact h4 i y' hy', fun i i' x y q1 q2 hxy => by
          obtain ⟨x', hx', hb1, _⟩ := hmod i x q1
          obtain ⟨y', hy', hb2, _⟩ := hmod i' y q2
          exact h5 i i' x' y' hx' hy' (by rw [← hb1, ← hb2, hxy])⟩ rfl rfl rfl
      refine ⟨_, ρ, I, _, ?_, ⟨rfl, rfl⟩, hc', ev⟩
      have hst : (Instr.keyThatStays (.int k n) (.int k n)).run P w = .ok (.int k n) w := MapKept.run_keyThatStays hkey
      simp [execOp, ho, he, hyv, Instr.mapUpdate, (hT t hok).run_und w, hu, MapKept.run_getObj_map h1, MapKept.run_checkKey hd hkey, MapKept.run_findKey hd f1, hj, f3, hst, MapKept.run_setObj_map _ h1, Result.andThen]

theorem AStepD.delete {t kt et ky : TypeId} {x y : Operand} {l : Nat} {k : IntKind} {n : Int} {es es' : List (Int × AV)} (ho : o.op = .call { callee := .builtin .delete, args := #[x, y], argTypes := #[t, ky] }) (hx : aev T x = .map l) (hy : aev T y = .v (.int k n)) (hok : (TT t).ok = true) (hu : (TT t).und = .map kt et)
    (hokk : (TT kt).ok = true) (huk : (TT kt).und = .int k) (hH : H.get l = some (.map (imap k es))) (hes' : delI es n = es') : AStepD P o T H .any (H.set l (.map (imap k es'))) := by
  subst hes'
  refine AStep.of_run fun ρ I w a hc ht => ?_
  have hv := aev_eq ht hx
  have hyv := cv_v (aev_eq ht hy)
  generalize he : a.eval x = u at hv
  cases hv with
  | @map _ B hB =>
    obtain ⟨B', hB', _, ents, clock, h1, h2, h3, h4, h5⟩ := hc.obj l _ hH
    rw [hB] at hB'; cases hB'
    have hkey : MapKept.IsKey (.int k) (.int k n) := by simp [MapKept.IsKey]
    have hd : P.underlying kt = some (.int k) := by rw [(hT kt hokk).und, huk]
    have hlt : B.b < w.heap.size := (Array.getElem?_eq_some_iff.1 h1).1
    have hes : ∀ (i : Nat) e en, es[i]? = some e → ents.toList[i]? = some en → en.key = .int k e.1 := fun i e en q1 q2 => (h3 i _ en (imap_get q1) (by simpa using q2)).1
    have hl2 : ents.size = es.length := by simpa [imap] using h2
    rcases findNow_int (n := n) es ents.toList 0 (by simpa [imap] using h2) hes with ⟨f1, f2, -, f3⟩ | ⟨j, en, b, f1, f2, f3, f4, f5, -, f6⟩
    · rw [f3]
      obtain ⟨hc', ev⟩ := hc.set (o' := .map (imap k es)) hH hB (w' := { w with heap := w.heap.setIfInBounds B.b (.map ents clock) }) (by simp) (fun q hq => by simp [Ne.symm hq])
        ⟨ents, clock, by simp [hlt], h2, h3, h4, h5⟩ rfl rfl rfl
      refine ⟨.tuple #[], _, .any, ρ, I, _, run_builtin ho a w ?_, ⟨rfl, rfl⟩, .any _, hc', ev⟩
      rw [show (#[x, y] : Array Operand).map a.eval = #[a.eval x, a.eval y] from by simp, he, hyv]
      simp [builtin, Builtin.delete_, (hT t hok).run_und w, hu, MapKept.run_getObj_map h1, MapKept.run_checkKey hd hkey, MapKept.run_findKey hd f1, MapKept.run_setObj_map _ h1, Result.andThen]
    · rw [f6]
      have hj : ents[j]? = some en := by simpa using f2
      have hjl : j < ents.size := (Array.getElem?_eq_some_iff.1 hj).1
      have her : ∀ (i : Nat) x, (ents.eraseIdxIfInBounds j)[i]? = some x → ents[if i < j then i else i + 1]? = some x := by
        intro i x q
        have e1 : (ents.eraseIdxIfInBounds j).toList = ents.toList.eraseIdx j := by simp [Array.eraseIdxIfInBounds, hjl]
        rw [← Array.getElem?_toList, e1, List.getElem?_eraseIdx] at q
        split at q
        · rename_i h; rw [if_pos h]; simpa using q
        · rename_i h; rw [if_neg h]; simpa using q
      obtain ⟨hc', ev⟩ := hc.set (o' := .map (imap k (es.eraseIdx j))) hH hB (w' := { w with heap := w.heap.setIfInBounds B.b (.map (ents.eraseIdxIfInBounds j) clock) }) (by simp) (fun q hq => by simp [Ne.symm hq])
        ⟨ents.eraseIdxIfInBounds j, clock, by simp [hlt], by
          have e1 : (ents.eraseIdxIfInBounds j).size = ents.size - 1 := by simp [Array.eraseIdxIfInBounds, hjl]
          have : j < es.length := by omega
          rw [e1]
          simp [imap, List.length_eraseIdx, this]
          omega, fun i e en' q1 q2 => by
          refine h3 (if i < j then i else i + 1) e en' ?_ (her i en' q2)
          simp only [imap] at q1
          rw [← map_eraseIdxA] at q1
          rw [List.getElem?_eraseIdx] at q1
          simp only [imap]
          split at q1
          · rename_i h; rw [if_pos h]; exact q1
          · rename_i h; rw [if_neg h]; exact q1, fun i en' q => h4 _ en' (her i en' q), fun i i' x y q1 q2 hxy => by
          have := h5 _ _ x y (her i x q1) (her i' y q2) hxy
          split at this <;> split at this <;> omega⟩ rfl rfl rfl
      refine ⟨.tuple #[], _, .any, ρ, I, _, run_builtin ho a w ?_, ⟨rfl, rfl⟩, .any _, hc', ev⟩
      rw [show (#[x, y] : Array Operand).map a.eval = #[a.eval x, a.eval y] from by simp, he, hyv]
      simp [builtin, Builtin.delete_, (hT t hok).run_und w, hu, MapKept.run_getObj_map h1, MapKept.run_checkKey hd hkey, MapKept.run_findKey hd f1, MapKept.run_setObj_map _ h1, Result.andThen]
end

theorem AStepD.callv {P : Program} {o : Oper} {T : Fr} {H H1 : AHeap} {y : AV} {x : Operand} {f : FuncId} {args : Array Operand} {ats : Array TypeId} {as caps : List AV} (ho : o.op = .call { callee := .value x, args := args, argTypes := ats }) (hx : aev T x = .func (.func f) caps) (he : Enters P f)
    (ha : args.toList.map (aev T) ++ caps = as) (h : ACalls P f as H fun r H' => r = y ∧ H' = H1) : AStepD P o T H y H1 := by
  subst ha
  exact AStep.call ho hx he h
theorem AStepD.val {P : Program} {o : Oper} {T : Fr} {H H1 : AHeap} {x y : AV} (h : AStepD P o T H x H1) (e : x = y) : AStepD P o T H y H1 := e ▸ h
theorem AStepD.bool {P : Program} {o : Oper} {T : Fr} {H H1 : AHeap} {b c : Bool} (h : AStepD P o T H (.v (.bool b)) H1) (e : b = c) : AStepD P o T H (.v (.bool c)) H1 := e ▸ h

theorem AStepD.weak {P : Program} {o : Oper} {T : Fr} {H H1 : AHeap} {x y : AV} (h : AStepD P o T H x H1) (hs : SubV x y) : AStepD P o T H y H1 := by
  intro ρ I w a hc ht Q
  refine Oper.wpIn_mono ?_ (h ρ I w a hc ht Q)
  rintro a' w' ⟨u, x, ρ', I', H', ha, ⟨rfl, rfl⟩, hx, hc', ev⟩
  exact ⟨u, y, ρ', I', _, ha, ⟨rfl, rfl⟩, hs _ _ _ hx, hc', ev⟩

section
variable {P : Program} {o : Oper} {T : Fr} {H : AHeap} {TT : Nat → TI} (hT : TOk P TT)
include hT
end
end Go.Ax

/- The abstract layer, part 26: structs of integers compared. -/

namespace Go.Ax
set_option linter.unusedSectionVars false
variable [Tabs]

def zA (l : List Int) : List AV := l.map fun a => .v (.int .i64 a)
theorem zA_vals {ρ : Rho} {I : Imm} {l : List Int} {vs : List Value} (hl : vs.length = (zA l).length) (hv : ∀ (i : Nat) a u, (zA l)[i]? = some a → vs[i]? = some u → CV ρ I a u) : vs = l.map fun a => .int .i64 a := by
  refine List.ext_getElem? fun i => ?_
  by_cases hi : i < l.length
  · have h1 : (zA l)[i]? = some (.v (.int .i64 l[i])) := by simp [zA, hi]
    have hi2 : i < vs.length := by rw [hl]; simpa [zA] using hi
    have h2 := hv i _ _ h1 (List.getElem?_eq_getElem hi2)
    rw [List.getElem?_eq_getElem hi2, cv_v h2]
    simp [hi]
  · rw [List.getElem?_eq_none (by rw [hl]; simpa [zA] using hi), List.getElem?_eq_none (by simpa using hi)]

section
variable {P : Program} {o : Oper} {T : Fr} {H : AHeap} {TT : Nat → TI} (hT : TOk P TT)
include hT

end
end Go.Ax

/- The abstract layer, part 27: slices that are made. -/

namespace Go.Ax
set_option linter.unusedSectionVars false
variable [Tabs]
section
variable {P : Program} {o : Oper} {T : Fr} {H : AHeap} {TT : Nat → TI} (hT : TOk P TT)
include hT
end
end Go.Ax

/- The abstract layer, part 28: an append whose outcome is only read. -/

namespace Go.Ax
set_option linter.unusedSectionVars false
variable [Tabs]
variable {md : Md}

theorem AStepD.lts {P : Program} {o : Oper} {T : Fr} {H H1 : AHeap} {x : AV} (k : (∀ l q, H.get l = some q → l < H.next) → AStepD P o T H x H1) : AStepD P o T H x H1 :=
  fun ρ I w a hc ht Q => k (fun _ _ h => AHeap.get_lt hc h) ρ I w a hc ht Q

section
variable {P : Program} {o : Oper} {T : Fr} {H : AHeap} {TT : Nat → TI} (hT : TOk P TT)
include hT
end

theorem Conc.retell {ρ : Rho} {I : Imm} {w : World} {H : AHeap} (hc : Conc ρ I w H) {X : Nat} {t : TypeId} {cs bs : List AV} (hX : H.get X = some (.cells t cs)) (hl : bs.length = cs.length)
    (hr : ∀ (i : Nat) a b u, cs[i]? = some a → bs[i]? = some b → CV ρ I a u → CV ρ I b u) : Conc ρ I w (H.set X (.cells t bs)) := by
  refine ⟨fun x y B C h1 h2 h3 h4 he => ?_, hc.dom, fun x o hx => ?_, hc.imm, hc.glob⟩
  · refine hc.inj x y B C h1 h2 ?_ ?_ he
    · by_cases e : x = X
      · subst e; simp [hX]
      · rwa [AHeap.get_set_ne _ _ e] at h3
    · by_cases e : y = X
      · subst e; simp [hX]
      · rwa [AHeap.get_set_ne _ _ e] at h4
  · by_cases e : x = X
    · subst e
      rw [AHeap.get_set_same] at hx
      cases hx
      obtain ⟨B, hB, hI, arr, h1, h2, h3, h4⟩ := hc.obj x _ hX
      refine ⟨B, hB, hI, arr, h1, h2, by omega, fun i z u hz hu => ?_⟩
      have hi : i < cs.length := by rw [← hl]; exact (List.getElem?_eq_some_iff.1 hz).1
      exact hr i cs[i] z u (List.getElem?_eq_getElem hi) hz (h4 i cs[i] u (List.getElem?_eq_getElem hi) hu)
    · rw [AHeap.get_set_ne _ _ e] at hx
      exact hc.obj x o hx
theorem AW.freeze_cell {P : Program} {c : Code} {Q : APost} {T : Fr} {H : AHeap} {n l X : Nat} {t tX : TypeId} {cs vs bs : List AV} (hl : H.get l = some (.cells t cs)) (hX : H.get X = some (.cells tX vs)) (hne : X ≠ l) (hlen : bs.length = vs.length)
    (hF : ∀ (i : Nat) a b, vs[i]? = some a → bs[i]? = some b → Frz l cs a b) (h : AW md P c Q T ((H.del l).set X (.cells tX bs)) n) : AW md P c Q T H n := by
  intro ρ I w a hc ht hn hd
  obtain ⟨I', B, arr, hB, hI, hIb, hcl, hv, hc', ev⟩ := hc.freeze hl
  have hX' : (H.del l).get X = some (.cells tX vs) := by rw [AHeap.get_del_ne _ hne]; exact hX
  have hc2 : Conc ρ I' w ((H.del l).set X (.cells tX bs)) := by
    refine ⟨fun x y B C h1 h2 h3 h4 he => ?_, hc'.dom, fun x o hx => ?_, hc'.imm, hc'.glob⟩
    · refine hc'.inj x y B C h1 h2 ?_ ?_ he
      · by_cases e : x = X
        · subst e; simp [hX']
        · rwa [AHeap.get_set_ne _ _ e] at h3
      · by_cases e : y = X
        · subst e; simp [hX']
        · rwa [AHeap.get_set_ne _ _ e] at h4
    · by_cases e : x = X
      · subst e
        rw [AHeap.get_set_same] at hx
        cases hx
        obtain ⟨B2, hB2, hI2, _⟩ := hc'.obj x _ hX'
        obtain ⟨B3, hB3, _, arr3, h1, h2, h3, h4⟩ := hc.obj x _ hX
        rw [hB2] at hB3; cases hB3
        refine ⟨B2, hB2, hI2, arr3, h1, h2, by omega, fun i z u hz hu => ?_⟩
        have hi : i < vs.length := by rw [← hlen]; exact (List.getElem?_eq_some_iff.1 hz).1
        exact (hF i vs[i] z (List.getElem?_eq_getElem hi) hz).cv hB hI hIb hcl hv (h4 i vs[i] u (List.getElem?_eq_getElem hi) hu)
      · rw [AHeap.get_set_ne _ _ e] at hx
        exact hc'.obj x o hx
  exact wpIn_mono (h ρ I' w a hc2 (ht.mono ev.rho ev.imm) hn (hd.ev (ev.trans (Ev.shrink hX')))) fun _ _ _ f => f.of_ev (ev.trans (Ev.shrink hX'))
end Go.Ax

/- A guard's truth, handed on: a proof that reads it. -/

namespace Go.Ax
set_option linter.unusedSectionVars false
variable [Tabs]
open Go
theorem gpf {g p : Prop} (hb : g) (h : g → p := by intro hb; first | (rw [hb]; done) | (rw [hb]; rfl) | (simp [hb]; done) | (simp_all; done) | exact guard_true hb) : p := h hb
end Go.Ax

/- The abstract layer, part 30: a range over a function: what an iterator is, a call of yield, the statement itself. -/

namespace Go.Ax
set_option linter.unusedSectionVars false
variable [Tabs]
open Go
variable {md : Md}

def AYields (P : Program) (L : Nat) (x : AV) (H : AHeap) (R : AV → AHeap → Prop) : Prop :=
  ∀ ρ I w B u, Conc ρ I w H → ρ L = some B → CV ρ I x u →
    ∃ fn tmps assign body, (Instr.yield B.b #[u]).run P w = .ok (.round B.b fn tmps assign body) w ∧
      RoundIn Fence.wide 0 P B.b fn tmps assign body w fun e w' => ∃ v r ρ' I' H', e = .returned v ∧ R r H' ∧ CV ρ' I' r v ∧ Conc ρ' I' w' H' ∧ Ev ρ I w H ρ' I' w' H'

theorem AStep.yield {P : Program} {o : Oper} {T : Fr} {H : AHeap} {x y : Operand} {ats : Array TypeId} {L : Nat} {K : AV → AHeap → Prop} (ho : o.op = .call { callee := .value x, args := #[y], argTypes := ats }) (hx : aev T x = .yld L)
    (h : AYields P L (aev T y) H K) : AStep P o T H K := by
  intro ρ I w a hc ht Q
  have hv := aev_eq ht hx
  obtain ⟨B, hB, he⟩ : ∃ B, ρ L = some B ∧ a.eval x = .func (.yield B.b) #[] #[] := by
    generalize a.eval x = u at hv
    cases hv with
    | yld hB => exact ⟨_, hB, rfl⟩
  obtain ⟨fn, tmps, assign, body, hy, hr⟩ := h ρ I w B (a.eval y) hc hB (aev_cv ht y)
  have hrun : (execOp a.eval o).run P w = .ok (.round B.b fn tmps assign body) w := by
    simp only [execOp, ho, resolve, he, Deferred.ofValue, Sem.run_bind, Sem.run_pure, Result.andThen, invoke]
    simpa using hy
  refine ⟨fun _ _ => trivial, ?_⟩
  rw [Fence.wide_round, Oper.semAt_none, hrun]
  refine ⟨fun hh => (by simp [Fence.wide] at hh), hr.mono ?_⟩
  rintro e w' ⟨v, r, ρ', I', H', rfl, hk, hcv, hc', ev⟩
  exact ⟨v, r, ρ', I', H', rfl, hk, hcv, hc', ev⟩

def Same (pr : Nat → Prop) (H1 H2 : AHeap) : Prop := (∀ q, q < H1.next → ¬ pr q → H2.get q = H1.get q) ∧ H1.next ≤ H2.next
def Held (pr : Nat → Prop) (H1 H2 : AHeap) : Prop := (∀ q, pr q → q < H1.next → H2.get q = H1.get q) ∧ H1.next ≤ H2.next

def ASeq (P : Program) (gf : FuncId) (lb : List AV) (xs : List AV) (pr : Nat → Prop) (H0 : AHeap) : Prop :=
  (∀ q, pr q → q < H0.next) ∧
  ∀ (L : Nat) (J : Nat → AHeap → Prop) (Jx : AHeap → Prop) (H : AHeap), L < H.next → ¬ pr L → H0.next ≤ H.next → (∀ q, pr q → H.get q = H0.get q) →
    (∀ i H1 H2, J i H1 → Same pr H1 H2 → J i H2) → (∀ H1 H2, Jx H1 → Same pr H1 H2 → Jx H2) →
    (∀ i H1 (hi : i < xs.length), J i H1 → H.next ≤ H1.next → AYields P L xs[i] H1 fun r H' => Held pr H1 H' ∧ ((r = .v (.bool true) ∧ J (i + 1) H') ∨ (r = .v (.bool false) ∧ Jx H'))) →
    J 0 H → ACalls P gf (.yld L :: lb) H fun _ H' => J xs.length H' ∨ Jx H'

theorem ASeq.later {P : Program} {gf : FuncId} {lb xs : List AV} {pr : Nat → Prop} {H0 H1 : AHeap} (h : ASeq P gf lb xs pr H0) (hn : H0.next ≤ H1.next) (hp : ∀ q, pr q → H1.get q = H0.get q) : ASeq P gf lb xs pr H1 :=
  ⟨fun q hq => Nat.lt_of_lt_of_le (h.1 q hq) hn, fun L J Jx H hL hpL hH hpr => h.2 L J Jx H hL hpL (Nat.le_trans hn hH) fun q hq => (hpr q hq).trans (hp q hq)⟩

def RoundPost (pr : Nat → Prop) (H1 : AHeap) (Jn : AHeap → Prop) (Jx : Exit → AHeap → Prop) : APost := fun e _ H' => Held pr H1 H' ∧
  match e with
  | .normal => Jn H'
  | .ret => Jx .ret H'
  | .exit id => Jx (.exit id) H'
  | _ => False

def jumpOf : Exit → Option Code
  | .ret => some .ret
  | .exit id => some (.exit id)
  | _ => none

theorem heap_alloc_old (w : World) (o : Obj) (k : Nat) (h : k < w.heap.size) : (w.alloc o).heap[k]? = w.heap[k]? := by
  show (w.heap.push o)[k]? = _
  rw [Array.getElem?_push_lt h]; simp [h]

theorem Conc.alloc_alien {ρ : Rho} {I : Imm} {w : World} {H : AHeap} (hc : Conc ρ I w H) (o : Obj) : Conc ρ I (w.alloc o) H where
  inj := hc.inj
  dom := hc.dom
  glob := hc.glob
  obj l x h := by
    obtain ⟨B, hB, hIB, hO⟩ := hc.obj l x h
    exact ⟨B, hB, hIB, hO.mono (fun _ _ h => h) (fun _ _ h => h) (heap_alloc_old w o _ hO.lt)⟩
  imm b arr h := by
    obtain ⟨t, fz, hb⟩ := hc.imm b arr h
    exact ⟨t, fz, (heap_alloc_old w o _ (Array.getElem?_eq_some_iff.1 hb).1).trans hb⟩

theorem Ev.alloc_alien {ρ : Rho} {I : Imm} {w : World} {H : AHeap} (hc : Conc ρ I w H) (o : Obj) : Ev ρ I w H ρ I (w.alloc o) H where
  rho _ _ h := h
  imm _ _ h := h
  os := rfl
  tape := rfl
  output := rfl
  size := by rw [World.size_alloc]; omega
  blk b hb _ := heap_alloc_old w o _ hb
  own _ _ h := h
  next := Nat.le_refl _

theorem Conc.own {ρ : Rho} {I : Imm} {w w' : World} {H : AHeap} (hc : Conc ρ I w H) {L : Nat} {B : Blk} (hB : ρ L = some B) (hno : ¬ Owned ρ H B.b) (hk : ∀ k, k ≠ B.b → w'.heap[k]? = w.heap[k]?) {o : AObj} (hI : I B.b = none) (ho : ObjAt ρ I w' B o) : Conc ρ I w' (H.set L o) where
  inj l l' B1 B2 h1 h2 h3 h4 he := by
    by_cases e : l = L
    · by_cases e' : l' = L
      · rw [e, e']
      · rw [AHeap.get_set_ne _ _ e'] at h4
        subst e; rw [hB] at h1; cases h1
        exact (hno ⟨l', B2, h2, he.symm, h4⟩).elim
    · rw [AHeap.get_set_ne _ _ e] at h3
      by_cases e' : l' = L
      · subst e'; rw [hB] at h2; cases h2
        exact (hno ⟨l, B1, h1, he, h3⟩).elim
      · rw [AHeap.get_set_ne _ _ e'] at h4
        exact hc.inj l l' B1 B2 h1 h2 h3 h4 he
  dom := hc.dom
  glob := hc.glob
  obj l x h := by
    by_cases e : l = L
    · subst e; rw [AHeap.get_set_same] at h; cases h
      exact ⟨B, hB, hI, ho⟩
    · rw [AHeap.get_set_ne _ _ e] at h
      obtain ⟨B1, hB1, hI1, hO⟩ := hc.obj l x h
      refine ⟨B1, hB1, hI1, hO.mono (fun _ _ h => h) (fun _ _ h => h) (hk _ fun e => hno ⟨l, B1, hB1, e, by simp [h]⟩)⟩
  imm b arr h := by
    obtain ⟨t, fz, hb⟩ := hc.imm b arr h
    exact ⟨t, fz, (hk b fun e => by subst e; rw [hI] at h; cases h).trans hb⟩

theorem Conc.unowned {ρ : Rho} {I : Imm} {w : World} {H : AHeap} (hc : Conc ρ I w H) {L : Nat} {B : Blk} {o : AObj} (hL : H.get L = some o) (hB : ρ L = some B) : ¬ Owned ρ (H.del L) B.b := by
  rintro ⟨l, B1, h1, h2, h3⟩
  by_cases e : l = L
  · subst e; rw [AHeap.get_del_same] at h3; cases h3
  · rw [AHeap.get_del_ne _ e] at h3
    exact e (hc.inj l L B1 B h1 hB h3 (by simp [hL]) h2)

theorem Conc.no_imm {ρ : Rho} {I : Imm} {w : World} {H : AHeap} (hc : Conc ρ I w H) {b : Nat} {o : Obj} (hb : w.heap[b]? = some o) (ho : ∀ arr t fz, o ≠ .cells arr t fz) : I b = none := by
  cases h : I b with
  | none => rfl
  | some arr =>
    obtain ⟨t, fz, hh⟩ := hc.imm b arr h
    rw [hb] at hh
    exact (ho arr t fz (Option.some.inj hh)).elim

theorem DOK.putObj {ρ : Rho} {w : World} {H : AHeap} {ds : List Deferred} (h : DOK md ρ w H ds) {b : Nat} {o : Obj} (hb : ∀ x, w.heap[b]? ≠ some (.deferred x)) : DOK md ρ (w.putObj b o) H ds := by
  refine ⟨by rw [World.putObj_size]; exact h.1, h.2.1, fun d hd => ?_⟩
  obtain ⟨D, rfl, h1, h2, h3⟩ := h.2.2 d hd
  exact ⟨D, rfl, h1, (World.putObj_heap_other fun e => hb _ (e ▸ h2)).trans h2, h3⟩

def Fr.top (T : Fr) : Nat := T.foldr (fun p m => max (p.1 + 1) m) 0
theorem look_top (T : Fr) : ∀ i, Fr.top T ≤ i → look T i = .any := by
  induction T with
  | nil => intro i _; rfl
  | cons p r ih =>
    intro i hi
    obtain ⟨j, x⟩ := p
    have : max (j + 1) (Fr.top r) ≤ i := hi
    rw [look_cons, if_neg (by omega)]
    exact ih i (by omega)
def Fr.cs (T : Fr) : List AV := (List.range (Fr.top T)).map (look T)
theorem TV.cs {ρ : Rho} {I : Imm} {T : Fr} {a : Act} : TV ρ I T a ↔ ∀ (i : Nat) x, (Fr.cs T)[i]? = some x → CV ρ I x (a.tmps.getD i undef) := by
  constructor
  · intro h i x hx
    simp only [Fr.cs, List.getElem?_map] at hx
    cases hr : (List.range (Fr.top T))[i]? with
    | none => rw [hr] at hx; cases hx
    | some j =>
      rw [hr] at hx
      simp only [Option.map_some, Option.some.injEq] at hx
      obtain ⟨_, hj⟩ := List.getElem?_eq_some_iff.1 hr
      simp at hj
      subst hj; subst hx
      exact h i
  · intro h i
    by_cases hi : i < Fr.top T
    · exact h i _ (by simp [Fr.cs, hi])
    · rw [look_top T i (by omega)]; exact .any _
end Go.Ax

/- The abstract layer, part 31: the statement 'for x := range f'. -/

namespace Go.Ax
set_option linter.unusedSectionVars false
variable [Tabs]
open Go
variable {md : Md}

section
variable {P : Program} {n : Nat} {p : Tmp} {assign body : Code} {T : Fr} {H : AHeap} {xs : List AV} {pr : Nat → Prop}

theorem yields_of {J : Nat → AHeap → Prop} {Jx : Exit → AHeap → Prop} {rec : Loop} {L : Nat} (hpr : ∀ q, pr q → q < L) (hHL : H.next ≤ L)
    (hrec : rec.state = .ready ∧ rec.pending = none ∧ rec.params = #[p] ∧ rec.assign = assign ∧ rec.body = body) (hpn : p < rec.tmps.size) (hn : rec.tmps.size = n)
    (hJ : ∀ i H1 H2, J i H1 → Same (fun q => pr q ∨ q = L) H1 H2 → J i H2) (hJx : ∀ e H1 H2, Jx e H1 → Same (fun q => pr q ∨ q = L) H1 H2 → Jx e H2)
    (round : ∀ l i H1 (hi : i < xs.length), J i H1 → H.next ≤ H1.next →
      AW { r := some l } P assign (AThen (fun T1 H2 => AW { r := some l } P body (RoundPost (fun q => pr q ∨ q = L) H1 (J (i + 1)) Jx) T1 H2 n) (fun _ _ _ => False)) ((p, xs[i]) :: T) H1 n)
    {i : Nat} {A : AHeap} (hi : i < xs.length) (hj : J i A) (hL : A.get L = some (.lp rec (Fr.cs T))) (hA : L < A.next) :
    AYields P L xs[i] A fun r H' => Held pr A H' ∧
      ((r = .v (.bool true) ∧ J (i + 1) H' ∧ H'.get L = some (.lp rec (Fr.cs T)) ∧ L < H'.next) ∨
       (r = .v (.bool false) ∧ ∃ e c, jumpOf e = some c ∧ Jx e H' ∧ H'.get L = some (.lp { rec with state := .done, pending := some c } (Fr.cs T)) ∧ L < H'.next)) := by
  obtain ⟨hr1, hr2, hr3, rfl, rfl⟩ := hrec
  intro ρ I w B u hc hB hu
  obtain ⟨B', hB', hI, hheap, hcs⟩ := hc.obj L _ hL
  rw [hB] at hB'; cases hB'
  have hy := run_yield (P := P) (args := #[u]) hheap (by rw [hr3]; rfl)
  have hfold : (rec.params.zip #[u]).foldl (fun tmps (x : Tmp × Value) => tmps.setIfInBounds x.1 x.2) rec.tmps = rec.tmps.setIfInBounds p u := by rw [hr3]; simp
  refine ⟨rec.fn, _, rec.assign, rec.body, hy, roundIn_of_wpIn trivial ?_⟩
  show rec.assign.wpIn (Fence.wide.inRound B.b) 0 P _ { tmps := (rec.params.zip #[u]).foldl (fun tmps (x : Tmp × Value) => tmps.setIfInBounds x.1 x.2) rec.tmps, defers := [] } w
  rw [hfold]
  have hcd : Conc ρ I w (A.del L) := hc.sub (SubH.del A L)
  have hun : ¬ Owned ρ (A.del L) B.b := hc.unowned hL hB
  have hsame : Same (fun q => pr q ∨ q = L) A (A.del L) := ⟨fun q _ hq => AHeap.get_del_ne _ (fun e => hq (.inr e)), Nat.le_refl _⟩
  have hbl : B.b < w.heap.size := (Array.getElem?_eq_some_iff.1 hheap).1
  have htv : TV ρ I T { tmps := rec.tmps, defers := [] } := TV.cs.2 hcs
  have r1 := round B.b i (A.del L) hi (hJ _ _ _ hj hsame) (by show H.next ≤ A.next; omega) ρ I w { tmps := rec.tmps.setIfInBounds p u, defers := [] } hcd
    (htv.put (d := some p) (fun t ht => by cases ht; exact hpn) hu) (by simpa using hn) (.nil (Nat.zero_le _))
  refine wpIn_mono r1 ?_
  intro e a1 w3 ⟨T1, ρ3, I3, A3, q, hc3, ht3, hn3, hd3, ev3⟩
  cases e with
  | exit id => exact q.elim
  | goto l => exact q.elim
  | ret => exact q.elim
  | panic c => exact q.elim
  | outgrown => exact q.elim
  | normal =>
    have hb3 : w3.heap[B.b]? = some (.loop rec) := (ev3.blk _ hbl hun).trans hheap
    have hun3 := ev3.own _ hbl hun
    have hI3 : I3 B.b = none := hc3.no_imm hb3 (fun _ _ _ h => by cases h)
    have hl3 : B.b < w3.heap.size := (Array.getElem?_eq_some_iff.1 hb3).1
    refine ⟨_, run_beginRound hb3 hr1, ?_⟩
    have hw3 : (w3.putObj B.b (.loop { rec with state := .busy })).heap[B.b]? = some (.loop { rec with state := .busy }) := World.putObj_heap_same hl3
    refine wpIn_mono (q ρ3 I3 _ a1 (hc3.putObj _ hun3 hI3) ht3 hn3 (hd3.putObj fun x hx => by rw [hb3] at hx; cases hx)) ?_
    intro e a2 w4 ⟨T2, ρ4, I4, A4, ⟨hheld, hq⟩, hc4, ht4, hn4, hd4, ev4⟩
    have hl3' : B.b < (w3.putObj B.b (.loop { rec with state := .busy })).heap.size := by rw [World.putObj_size]; exact hl3
    have hb4 : w4.heap[B.b]? = some (.loop { rec with state := .busy }) := (ev4.blk _ hl3' hun3).trans hw3
    have hun4 := ev4.own _ hl3' hun3
    have hI4 : I4 B.b = none := hc4.no_imm hb4 (fun _ _ _ h => by cases h)
    have hl4 : B.b < w4.heap.size := (Array.getElem?_eq_some_iff.1 hb4).1
    have hB4 : ρ4 L = some B := ev4.rho _ _ (ev3.rho _ _ hB)
    have hcs4 : ∀ (i : Nat) x, (Fr.cs T)[i]? = some x → CV ρ4 I4 x (rec.tmps.getD i undef) := fun i x hx => ev4.cv (ev3.cv (hcs i x hx))
    have hnx : A.next ≤ A4.next := Nat.le_trans ev3.next ev4.next
    have hAL : A4.get L = none := by
      have := hheld.1 L (.inr rfl) (show L < A.next from hA)
      rw [this, AHeap.get_del_same]
    have fin : ∀ r' : Loop, r'.tmps = rec.tmps → Conc ρ4 I4 (w4.putObj B.b (.loop r')) (A4.set L (.lp r' (Fr.cs T))) ∧
        Ev ρ I w A ρ4 I4 (w4.putObj B.b (.loop r')) (A4.set L (.lp r' (Fr.cs T))) ∧ Held pr A (A4.set L (.lp r' (Fr.cs T))) := by
      intro r' hr'
      refine ⟨hc4.own hB4 hun4 (fun k hk => World.putObj_heap_other hk) hI4 ⟨World.putObj_heap_same hl4, by rw [hr']; exact hcs4⟩, ?_, ?_⟩
      · refine ⟨fun l X h => ev4.rho _ _ (ev3.rho _ _ h), fun b x h => ev4.imm _ _ (ev3.imm _ _ h), ev4.os.trans ev3.os, ev4.tape.trans ev3.tape, ev4.output.trans ev3.output, ?_, ?_, ?_, hnx⟩
        · rw [World.putObj_size]
          have := ev4.size
          rw [World.putObj_size] at this
          exact Nat.le_trans ev3.size this
        · intro b hb ho
          have hne : b ≠ B.b := fun e => ho ⟨L, B, hB, e.symm, by simp [hL]⟩
          have hod : ¬ Owned ρ (A.del L) b := fun h => ho (h.sub (SubH.del A L))
          rw [World.putObj_heap_other hne]
          refine (ev4.blk b (by rw [World.putObj_size]; exact Nat.lt_of_lt_of_le hb ev3.size) (ev3.own b hb hod)).trans ?_
          rw [World.putObj_heap_other hne]
          exact ev3.blk b hb hod
        · intro b hb ho
          have hod : ¬ Owned ρ (A.del L) b := fun h => ho (h.sub (SubH.del A L))
          have ho4 := ev4.own b (by rw [World.putObj_size]; exact Nat.lt_of_lt_of_le hb ev3.size) (ev3.own b hb hod)
          rintro ⟨l', X, h1, h2, h3⟩
          by_cases e : l' = L
          · subst e; rw [hB4] at h1; cases h1
            exact ho ⟨l', B, hB, h2, by simp [hL]⟩
          · rw [AHeap.get_set_ne _ _ e] at h3
            exact ho4 ⟨l', X, h1, h2, h3⟩
      · refine ⟨fun q hq hlt => ?_, hnx⟩
        have hne : q ≠ L := Nat.ne_of_lt (hpr q hq)
        rw [AHeap.get_set_ne _ _ hne]
        exact (hheld.1 q (.inl hq) hlt).trans (AHeap.get_del_ne _ hne)
    have hset : ∀ r' : Loop, Same (fun q => pr q ∨ q = L) A4 (A4.set L (.lp r' (Fr.cs T))) := fun r' => ⟨fun q _ hq => AHeap.get_set_ne _ _ (fun e => hq (.inr e)), Nat.le_refl _⟩
    have hnN : L < A4.next := by omega
    have jump : ∀ e' c, jumpOf e' = some c → Jx e' A4 → ∃ v w', (Instr.endRound B.b (some c)).run P w4 = .ok v w' ∧ ∃ v1 r ρ' I' H', Ending.returned v = .returned v1 ∧
        (Held pr A H' ∧ ((r = .v (.bool true) ∧ J (i + 1) H' ∧ H'.get L = some (.lp rec (Fr.cs T)) ∧ L < H'.next) ∨
         (r = .v (.bool false) ∧ ∃ e c, jumpOf e = some c ∧ Jx e H' ∧ H'.get L = some (.lp { rec with state := .done, pending := some c } (Fr.cs T)) ∧ L < H'.next))) ∧
        CV ρ' I' r v1 ∧ Conc ρ' I' w' H' ∧ Ev ρ I w A ρ' I' w' H' := by
      intro e' c hc' hjx
      obtain ⟨f1, f2, f3⟩ := fin { rec with state := .done, pending := some c } rfl
      exact ⟨_, _, run_endRound (some c) hb4, _, .v (.bool false), ρ4, I4, _, rfl, ⟨f3, .inr ⟨rfl, e', c, hc', hJx _ _ _ hjx (hset _), AHeap.get_set_same _ _ _, hnN⟩⟩, .v _, f1, f2⟩
    cases e with
    | normal =>
      have hr : { rec with state := .ready, pending := none } = rec := by
        cases rec; simp_all
      obtain ⟨f1, f2, f3⟩ := fin { rec with state := .ready, pending := none } rfl
      refine ⟨_, _, run_endRound none hb4, _, .v (.bool true), ρ4, I4, _, rfl, ⟨f3, .inl ⟨rfl, hJ _ _ _ hq (hset _), ?_, hnN⟩⟩, .v _, f1, f2⟩
      rw [AHeap.get_set_same, hr]
    | ret => exact jump .ret .ret rfl hq
    | exit id => exact jump (.exit id) (.exit id) rfl hq
    | goto l => exact hq.elim
    | panic c => exact hq.elim
    | outgrown => exact hq.elim

theorem AW.rangeFunc {base : Nat} {g : Operand} {Q : APost} {gf : FuncId} {lb : List AV} (hg : aev T g = .func (.func gf) lb) (he : Enters P gf) (hpn : p < n) (hs : ASeq P gf lb xs pr H)
    (J : Nat → AHeap → Prop) (Jx : Exit → AHeap → Prop) (hJ : ∀ i H1 H2, J i H1 → Same (fun q => pr q ∨ q = H.next) H1 H2 → J i H2) (hJx : ∀ e H1 H2, Jx e H1 → Same (fun q => pr q ∨ q = H.next) H1 H2 → Jx e H2) (h0 : J 0 H)
    (round : ∀ l i H1 (hi : i < xs.length), J i H1 → H.next ≤ H1.next →
      AW { r := some l } P assign (AThen (fun T1 H2 => AW { r := some l } P body (RoundPost (fun q => pr q ∨ q = H.next) H1 (J (i + 1)) Jx) T1 H2 n) (fun _ _ _ => False)) ((p, xs[i]) :: T) H1 n)
    (done : ∀ H1, J xs.length H1 → H.next ≤ H1.next → Q .normal T H1) (stop : ∀ e H1, Jx e H1 → H.next ≤ H1.next → (jumpOf e).isSome → Q e T H1) :
    AW { base := base } P (.rangeFunc g #[p] assign body) Q T H n := by
  intro ρ I w a hc ht hn hd
  have hv := aev_eq ht hg
  obtain ⟨vs, hvs, hl, hcv⟩ : ∃ vs : List Value, a.eval g = .func (.func gf) #[] vs.toArray ∧ vs.length = lb.length ∧ ∀ (i : Nat) a u, lb[i]? = some a → vs[i]? = some u → CV ρ I a u := by
    generalize a.eval g = u at hv
    cases hv with
    | func hl hv => exact ⟨_, rfl, hl, hv⟩
  refine wpIn_rangeFunc ?_
  intro fn _
  obtain ⟨W0, hW0⟩ : ∃ W0, w.alloc (.deferred (some [])) = W0 := ⟨_, rfl⟩
  have hs0 : W0.heap.size = w.heap.size + 1 := by rw [← hW0]; simp
  obtain ⟨rec, hrec⟩ : ∃ rec : Loop, { state := .ready, pending := none, fn, tmps := a.tmps, params := #[p], assign, body, defers := w.heap.size } = rec := ⟨_, rfl⟩
  have hrs : rec.state = .ready ∧ rec.pending = none ∧ rec.params = #[p] ∧ rec.assign = assign ∧ rec.body = body := by subst hrec; exact ⟨rfl, rfl, rfl, rfl, rfl⟩
  have hrt : rec.tmps = a.tmps := by subst hrec; rfl
  obtain ⟨W1, hW1⟩ : ∃ W1, W0.alloc (.loop rec) = W1 := ⟨_, rfl⟩
  have hc0 : Conc ρ I W0 H := by rw [← hW0]; exact hc.alloc_alien _
  have ev0 : Ev ρ I w H ρ I W0 H := by rw [← hW0]; exact .alloc_alien hc _
  have hext : ∀ l B, ρ l = some B → ρ.new H.next ⟨W0.heap.size, 0⟩ l = some B := fun l B h => by
    have := hc.dom l B h
    unfold Rho.new
    rw [if_neg (by omega)]; exact h
  obtain ⟨hc1, ev1⟩ := hc0.new (w' := W1) (o := .lp rec (Fr.cs T)) 0 (by rw [← hW1]; simp) (fun k hk => by rw [← hW1]; exact heap_alloc_old _ _ k hk)
    ⟨by rw [← hW1]; exact World.alloc_heap_new _ _, fun i x hx => by rw [hrt]; exact (TV.cs.1 ht i x hx).mono hext (fun _ _ h => h)⟩ (by rw [← hW1]; rfl) (by rw [← hW1]; rfl) (by rw [← hW1]; rfl)
  have evA := ev0.trans ev1
  generalize hρ1 : ρ.new H.next ⟨W0.heap.size, 0⟩ = ρ1 at hc1 ev1 evA hext
  have hBL : ρ1 H.next = some ⟨W0.heap.size, 0⟩ := by rw [← hρ1]; simp [Rho.new]
  have hD1 : W1.heap[w.heap.size]? = some (.deferred (some [])) := by
    rw [← hW1, heap_alloc_old _ _ _ (by omega), ← hW0]; exact World.alloc_heap_new _ _
  have hDun : ¬ Owned ρ1 (H.new (.lp rec (Fr.cs T))) w.heap.size := by
    rintro ⟨l, B, h1, h2, h3⟩
    by_cases e : l = H.next
    · subst e; rw [hBL] at h1; cases h1; simp only at h2; omega
    · rw [AHeap.get_new_ne _ _ e] at h3
      obtain ⟨o, ho⟩ := Option.isSome_iff_exists.1 h3
      obtain ⟨B', hB', _, hO⟩ := hc.obj l o ho
      have := hext _ _ hB'
      rw [h1] at this; cases this
      have := hO.lt
      omega
  refine ⟨W0.heap.size, [{ target := .collected w.heap.size, args := #[] }], W1, { target := .fn (.func gf) vs.toArray, args := #[.func (.yield W0.heap.size) #[] #[]] }, W1, gf,
    #[.func (.yield W0.heap.size) #[] #[]] ++ vs.toArray, W1, ?_, ?_, fun _ _ => trivial, ?_, fun hh => (by simp [Md.F, Fence.wide] at hh), ?_⟩
  · rw [← hW1, ← hrec, hs0, ← hW0]; exact run_enterLoop_outer _ _ _ _ _
  · simp only [resolve, hvs]
    simp [Deferred.ofValue, Sem.run_bind, Sem.run_pure, Result.andThen, Act.eval]
  · simp only [invoke]
    exact he _ W1
  · have hargs : CVs ρ1 I (.yld H.next :: lb) ((#[.func (.yield W0.heap.size) #[] #[]] ++ vs.toArray : Array Value).toList) := by
      have h1 : CV ρ1 I (.yld H.next) (.func (.yield W0.heap.size) #[] #[]) := .yld hBL
      have h2 : CVs ρ1 I lb vs := ⟨hl, fun i a u ha hu => (hcv i a u ha hu).mono hext (fun _ _ h => h)⟩
      simpa using CVs.cons h1 h2
    have hnp : ¬ pr H.next := fun h => by have := hs.1 _ h; omega
    have wk : ∀ A B, Same pr A B → Same (fun q => pr q ∨ q = H.next) A B := fun A B h => ⟨fun q hq hn => h.1 q hq (fun hp => hn (.inl hp)), h.2⟩
    have hcall := hs.2 H.next (fun i Hh => J i Hh ∧ Hh.get H.next = some (.lp rec (Fr.cs T)) ∧ H.next < Hh.next)
      (fun Hh => ∃ e c, jumpOf e = some c ∧ Jx e Hh ∧ Hh.get H.next = some (.lp { rec with state := .done, pending := some c } (Fr.cs T)) ∧ H.next < Hh.next)
      (H.new (.lp rec (Fr.cs T))) (Nat.lt_succ_self _) hnp (Nat.le_succ _) (fun q hq => AHeap.get_new_ne _ _ (by have := hs.1 _ hq; omega))
      (fun i H1 H2 h hs' => ⟨hJ i H1 H2 h.1 (wk _ _ hs'), (hs'.1 H.next h.2.2 hnp).trans h.2.1, Nat.lt_of_lt_of_le h.2.2 hs'.2⟩)
      (fun H1 H2 ⟨e, c, h1, h2, h3, h4⟩ hs' => ⟨e, c, h1, hJx e H1 H2 h2 (wk _ _ hs'), (hs'.1 H.next h4 hnp).trans h3, Nat.lt_of_lt_of_le h4 hs'.2⟩)
      (fun i A hi hj hA => yields_of hs.1 (Nat.le_refl _) hrs (by rw [hrt, hn]; exact hpn) (by rw [hrt, hn]) hJ hJx round hi hj.1 hj.2.1 hj.2.2)
      ⟨hJ 0 H _ h0 ⟨fun q hq hp => AHeap.get_new_ne _ _ (fun e => hp (.inr e)), Nat.le_succ _⟩, AHeap.get_new_same _ _, Nat.lt_succ_self _⟩
    have hc2 := hcall ρ1 I W1 _ hc1 hargs
    refine callsIn_wide.2 (Calls.mono hc2 ?_)
    rintro e W2 ⟨v, r, ρ2, I2, H2, rfl, hj, _, hcc, ev2⟩
    have hB2 : ρ2 H.next = some ⟨W0.heap.size, 0⟩ := ev2.rho _ _ hBL
    have hDlt : w.heap.size < W1.heap.size := (Array.getElem?_eq_some_iff.1 hD1).1
    have hD2 : W2.heap[w.heap.size]? = some (.deferred (some [])) := (ev2.blk _ hDlt hDun).trans hD1
    have hDun2 := ev2.own _ hDlt hDun
    have evAll := evA.trans ev2
    have fin : ∀ (r' : Loop) (jp : Option Code), H2.get H.next = some (.lp r' (Fr.cs T)) → r'.state ≠ .busy → r'.pending = jp →
        ∃ w4, (Instr.endLoop W0.heap.size).run P W2 = .ok jp w4 ∧ Conc ρ2 I2 w4 (H2.del H.next) ∧ Ev ρ I w H ρ2 I2 w4 (H2.del H.next) ∧ TV ρ2 I2 T a ∧
          DOK { base := base } ρ2 w4 (H2.del H.next) ([{ target := .collected w.heap.size, args := #[] }] ++ a.defers) := by
      intro r' jp hg2 hst hp
      obtain ⟨B', hB', hI', hO, _⟩ := hcc.obj _ _ hg2
      rw [hB2] at hB'; cases hB'
      have hun := hcc.unowned hg2 hB2
      refine ⟨_, by rw [← hp]; exact run_endLoop hO hst, (hcc.sub (SubH.del _ _)).putObj _ hun hI', (evAll.trans (Ev.sub (SubH.del _ _))).putObj _ (by show w.heap.size ≤ W0.heap.size; omega), ht.mono evAll.rho evAll.imm, ?_⟩
      refine ⟨by rw [World.putObj_size]; exact Nat.le_trans hd.1 evAll.size, List.nodup_cons.2 ⟨fun hm => ?_, hd.2.1⟩, fun d hdm => ?_⟩
      · obtain ⟨D, he, _, h2, _⟩ := hd.2.2 _ hm
        have : w.heap.size = D := by injection he with h; injection h
        have := (Array.getElem?_eq_some_iff.1 h2).1
        omega
      · rcases List.mem_cons.1 hdm with rfl | hdm
        · refine ⟨_, rfl, hd.1, (World.putObj_heap_other (by show w.heap.size ≠ W0.heap.size; omega)).trans hD2, fun h => hDun2 (h.sub (SubH.del _ _))⟩
        · obtain ⟨D, rfl, h1, h2, h3⟩ := hd.2.2 d hdm
          have hlt := (Array.getElem?_eq_some_iff.1 h2).1
          exact ⟨D, rfl, h1, (World.putObj_heap_other (by show D ≠ W0.heap.size; omega)).trans ((evAll.blk _ hlt h3).trans h2), fun h => evAll.own _ hlt h3 (h.sub (SubH.del _ _))⟩
    have hsame : Same (fun q => pr q ∨ q = H.next) H2 (H2.del H.next) := ⟨fun q _ hq => AHeap.get_del_ne _ (fun e => hq (.inr e)), Nat.le_refl _⟩
    rcases hj with ⟨hj1, hj2, hj3⟩ | ⟨e, c, hjc, hj1, hj2, hj3⟩
    · obtain ⟨w4, f1, f2, f3, f4, f5⟩ := fin rec none hj2 (by rw [hrs.1]; simp) hrs.2.1
      exact ⟨none, w4, f1, T, ρ2, I2, _, done _ (hJ _ _ _ hj1 hsame) (by show H.next ≤ H2.next; omega), f2, f4, hn, f5, f3⟩
    · obtain ⟨w4, f1, f2, f3, f4, f5⟩ := fin _ (some c) hj2 (by simp) rfl
      refine ⟨some c, w4, f1, ?_⟩
      have hq := stop e _ (hJx _ _ _ hj1 hsame) (by show H.next ≤ H2.next; omega) (by rw [hjc]; rfl)
      cases e with
      | ret => cases hjc; exact wpIn_ret ⟨T, ρ2, I2, _, hq, f2, f4, hn, f5, f3⟩
      | exit id => cases hjc; exact wpIn_exit ⟨T, ρ2, I2, _, hq, f2, f4, hn, f5, f3⟩
      | normal => cases hjc
      | goto l => cases hjc
      | panic c => cases hjc
      | outgrown => cases hjc
end
end Go.Ax

/- The abstract layer, part 32: contracts of the kit's shelf, as abstract calls. -/

namespace Go.Ax
set_option linter.unusedSectionVars false
variable [Tabs]
open Go
variable {md : Md}

theorem Conc.below {ρ : Rho} {I : Imm} {w w' : World} {H : AHeap} (hc : Conc ρ I w H) (hb : RowKit.Below w.heap.size w w') : Conc ρ I w' H where
  inj := hc.inj
  glob := hc.glob
  dom := hc.dom
  obj l x h := by
    obtain ⟨B, hB, hIB, hO⟩ := hc.obj l x h
    exact ⟨B, hB, hIB, hO.mono (fun _ _ h => h) (fun _ _ h => h) (hb.block _ hO.lt)⟩
  imm b arr h := by
    obtain ⟨t, fz, hh⟩ := hc.imm b arr h
    exact ⟨t, fz, (hb.block b (Array.getElem?_eq_some_iff.1 hh).1).trans hh⟩

theorem Ev.below {w w' : World} (ρ : Rho) (I : Imm) (H : AHeap) (hb : RowKit.Below w.heap.size w w') : Ev ρ I w H ρ I w' H where
  rho _ _ h := h
  imm _ _ h := h
  os := hb.os
  tape := hb.tape
  output := hb.output
  size := hb.size
  blk b h _ := hb.block b h
  own _ _ h := h
  next := Nat.le_refl _

theorem ACalls.of_below {P : Program} {f : FuncId} {args : List AV} {H : AHeap} {y : AV}
    (h : ∀ ρ I w vs, Conc ρ I w H → CVs ρ I args vs → Calls P f vs.toArray w fun e w' => ∃ u, e = .returned u ∧ CV ρ I y u ∧ RowKit.Below w.heap.size w w') :
    ACalls P f args H fun r H' => r = y ∧ H' = H :=
  fun ρ I w vs hc ha => (h ρ I w vs hc ha).mono fun _ _ ⟨u, he, hu, hb⟩ => ⟨u, y, ρ, I, H, he, ⟨rfl, rfl⟩, hu, hc.below hb, .below ρ I H hb⟩

theorem ACalls.of_below_imm {P : Program} {f : FuncId} {args : List AV} {H : AHeap} {y : AV}
    (h : ∀ ρ I w vs, Conc ρ I w H → CVs ρ I args vs → Calls P f vs.toArray w fun e w' => ∃ u I', e = .returned u ∧ CV ρ I' y u ∧ RowKit.Below w.heap.size w w' ∧
      (∀ b a, I b = some a → I' b = some a) ∧ (∀ b a, I' b = some a → I b = none → w.heap.size ≤ b ∧ ∃ t fz, w'.heap[b]? = some (.cells a t fz))) :
    ACalls P f args H fun r H' => r = y ∧ H' = H := by
  intro ρ I w vs hc ha
  refine (h ρ I w vs hc ha).mono ?_
  rintro _ w' ⟨u, I', he, hu, hb, h1, h2⟩
  have hc' := hc.below hb
  refine ⟨u, y, ρ, I', H, he, ⟨rfl, rfl⟩, hu, ⟨hc.inj, hc.dom, fun l o ho => ?_, fun b a hba => ?_, hc.globs (fun _ _ h => h) h1⟩, ⟨fun _ _ h => h, h1, hb.os, hb.tape, hb.output, hb.size, fun b hbb _ => hb.block b hbb, fun _ _ h => h, Nat.le_refl _⟩⟩
  · obtain ⟨B, hB, hI, hO⟩ := hc'.obj l o ho
    obtain ⟨B', hB', _, hO'⟩ := hc.obj l o ho
    rw [hB] at hB'; cases hB'
    refine ⟨B, hB, ?_, hO.mono (fun _ _ h => h) h1 rfl⟩
    cases hi : I' B.b with
    | none => rfl
    | some a => have := (h2 _ _ hi hI).1; have := hO'.lt; omega
  · cases hi : I b with
    | none => exact (h2 b a hba hi).2
    | some a' =>
      have := h1 _ _ hi
      rw [hba] at this; cases this
      exact hc'.imm b a hi

theorem Conc.grow {ρ : Rho} {I : Imm} {w : World} {H : AHeap} (hc : Conc ρ I w H) (os : Array Obj) : Conc ρ I (Sort.grow w os) H ∧ Ev ρ I w H ρ I (Sort.grow w os) H := by
  have hb : RowKit.Below w.heap.size w (Sort.grow w os) := ⟨rfl, rfl, rfl, by simp [Sort.grow], fun k hk => by simp only [Sort.grow]; rw [Array.getElem?_append_left hk]⟩
  exact ⟨hc.below hb, .below ρ I H hb⟩

theorem Conc.putRow {ρ : Rho} {I : Imm} {w : World} {H : AHeap} (hc : Conc ρ I w H) {l : Nat} {B : Blk} {t : TypeId} {F G : List Value} (hl : H.get l = some (.cells t (F.map .v))) (hB : ρ l = some B) (hFG : G.length = F.length) (n : Nat) (os : Array Obj) :
    Conc ρ I (Sort.grow (Sort.putRow id (Sort.ahead w n) B.b 0 G.toArray) os) (H.set l (.cells t (G.map .v))) ∧ Ev ρ I w H ρ I (Sort.grow (Sort.putRow id (Sort.ahead w n) B.b 0 G.toArray) os) (H.set l (.cells t (G.map .v))) := by
  obtain ⟨B', hB', _, arr, h1, h2, h3, h4⟩ := hc.obj l _ hl
  rw [hB] at hB'; cases hB'
  have hb : CellsAt (Sort.putRow id (Sort.ahead w n) B.b 0 G.toArray) B.b (Sort.putCells id 0 G.toArray arr) t := by
    obtain ⟨fz, e1, e2⟩ := h1
    refine ⟨fz, ?_, e2.imp id fun h => ⟨by simp [Sort.putCells]; exact h.1, h.2⟩⟩
    simp only [Sort.putRow, Sort.mapBlock, Sort.ahead, Array.getElem?_modify, if_true, e1, Option.map_some]
    rfl
  obtain ⟨a1, a2⟩ := hc.set (w' := Sort.putRow id (Sort.ahead w n) B.b 0 G.toArray) (o' := .cells t (G.map .v)) hl hB (by simp [Sort.putRow, Sort.mapBlock, Sort.ahead])
    (fun k hk => by simp only [Sort.putRow, Sort.mapBlock, Sort.ahead, Array.getElem?_modify]; rw [if_neg (fun e => hk e.symm)])
    ⟨_, hb, by simp [Sort.putCells, h2], by simp only [List.length_map] at h3 ⊢; simp [Sort.putCells]; omega, fun i x u hx hu => by
      simp only [List.getElem?_map] at hx
      cases hg : G[i]? with
      | none => rw [hg] at hx; cases hx
      | some g =>
        rw [hg] at hx
        simp only [Option.map_some, Option.some.injEq] at hx
        subst hx
        have hi : i < G.length := (List.getElem?_eq_some_iff.1 hg).1
        simp only [Sort.putCells, Array.getElem?_mapIdx] at hu
        cases ha : arr[i]? with
        | none => rw [ha] at hu; cases hu
        | some q =>
          rw [ha] at hu
          simp [hi] at hu
          have hgi : G[i] = g := (List.getElem?_eq_some_iff.1 hg).2
          rw [hgi] at hu
          subst hu
          exact .v _⟩ rfl rfl rfl
  obtain ⟨b1, b2⟩ := a1.grow os
  exact ⟨b1, a2.trans b2⟩
end Go.Ax

/- The abstract layer, part 33: values as rows of cells; lists of them; a list that is being built. -/

namespace Go.Ax
set_option linter.unusedSectionVars false
variable [Tabs]
open Go
variable {md : Md}

class Cel (α : Type) where
  n : Nat
  c : α → List AV
  len : ∀ a, (c a).length = n
  one : ∀ a z, z ∈ c a → z.one = true
  pl : ∀ a z, z ∈ c a → Plain z
open Cel (c)

def flat {α : Type} [Cel α] (l : List α) : List AV := l.flatMap c

section
variable {α : Type} [Cel α]
theorem flat_nil : flat ([] : List α) = [] := rfl
theorem flat_cons (a : α) (r : List α) : flat (a :: r) = c a ++ flat r := by simp [flat]
theorem flat_one (a : α) : flat [a] = c a := by simp [flat]
theorem flat_append (a b : List α) : flat (a ++ b) = flat a ++ flat b := by simp [flat]
theorem flat_length (l : List α) : (flat l).length = l.length * Cel.n α := by
  induction l with
  | nil => simp [flat]
  | cons a r ih => rw [flat_cons, List.length_append, ih, Cel.len, List.length_cons, Nat.succ_mul]; omega
theorem flat_ones (l : List α) : ∀ z ∈ flat l, z.one = true := fun z hz => by
  obtain ⟨m, _, hm⟩ := List.mem_flatMap.1 hz
  exact Cel.one m z hm
theorem flat_plain (l : List α) : ∀ z ∈ flat l, Plain z := fun z hz => by
  obtain ⟨m, _, hm⟩ := List.mem_flatMap.1 hz
  exact Cel.pl m z hm
theorem flat_drop (l : List α) (i : Nat) : (flat l).drop (i * Cel.n α) = flat (l.drop i) := by
  induction l generalizing i with
  | nil => simp [flat]
  | cons a r ih =>
    cases i with
    | zero => simp
    | succ i => rw [flat_cons, List.drop_succ_cons, ← ih, List.drop_append, List.drop_of_length_le (by rw [Cel.len, Nat.succ_mul]; omega), List.nil_append, Cel.len, Nat.succ_mul, Nat.add_sub_cancel]
theorem flat_take (l : List α) (i : Nat) : (flat l).take (i * Cel.n α) = flat (l.take i) := by
  induction l generalizing i with
  | nil => simp [flat]
  | cons a r ih =>
    cases i with
    | zero => simp [flat]
    | succ i => rw [flat_cons, List.take_succ_cons, flat_cons, ← ih, List.take_append, List.take_of_length_le (by rw [Cel.len, Nat.succ_mul]; omega), Cel.len, Nat.succ_mul, Nat.add_sub_cancel]
theorem flat_drop_at (l : List α) (i : Nat) (h : i < l.length) : (flat l).drop (i * Cel.n α) = c l[i] ++ flat (l.drop (i + 1)) := by
  rw [flat_drop, List.drop_eq_getElem_cons h, flat_cons]
theorem flat_at (l : List α) (i : Nat) (h : i < l.length) : ((flat l).drop (i * Cel.n α)).take (Cel.n α) = c l[i] := by
  rw [flat_drop_at l i h, List.take_append_of_le_length (by rw [Cel.len]; exact Nat.le_refl _), List.take_of_length_le (by rw [Cel.len]; exact Nat.le_refl _)]
theorem flat_getc (l : List α) (i j : Nat) (h : i < l.length) (hj : j < Cel.n α) : (flat l)[i * Cel.n α + j]? = (c l[i])[j]? := by
  have := congrArg (fun q => q[j]?) (flat_drop_at l i h)
  simp only [List.getElem?_drop] at this
  rw [this, List.getElem?_append_left (by rw [Cel.len]; exact hj)]
theorem over_flat (l : List α) (i j : Nat) (h : i < l.length) (xs : List AV) (a : α) (hj : j + xs.length ≤ Cel.n α) (ha : over (c l[i]) j xs = c a) : over (flat l) (i * Cel.n α + j) xs = flat (l.set i a) := by
  have h1 : flat l = flat (l.take i) ++ (c l[i] ++ flat (l.drop (i + 1))) := by
    conv => lhs; rw [← List.take_append_drop i l, flat_append, List.drop_eq_getElem_cons h, flat_cons]
  have h2 : flat (l.set i a) = flat (l.take i) ++ (c a ++ flat (l.drop (i + 1))) := by
    rw [List.set_eq_take_append_cons_drop, if_pos h, flat_append, flat_cons]
  have hl : (flat (l.take i)).length = i * Cel.n α := by rw [flat_length, List.length_take, Nat.min_eq_left (Nat.le_of_lt h)]
  have hc := Cel.len l[i]
  rw [h2, ← ha, h1]
  unfold over
  rw [List.take_append, List.take_of_length_le (by omega), hl, Nat.add_sub_cancel_left, List.take_append_of_le_length (by omega),
    List.drop_append, List.drop_of_length_le (by rw [hl]; omega), List.nil_append, hl, show i * Cel.n α + j + xs.length - i * Cel.n α = j + xs.length by omega, List.drop_append, show j + xs.length - (c l[i]).length = 0 by omega, List.drop_zero]
  simp
end

instance : Cel Int where
  n := 1
  c a := [.v (.int .i64 a)]
  len _ := rfl
  one _ z h := by simp at h; subst h; rfl
  pl _ z h := by simp at h; subst h; exact .v _
instance : Cel ByteArray where
  n := 1
  c a := [.v (.string a)]
  len _ := rfl
  one _ z h := by simp at h; subst h; rfl
  pl _ z h := by simp at h; subst h; exact .v _

abbrev vecA {α : Type} [Cel α] (l : List α) : AV := .vec l.length (flat l)
theorem vecA_plain {α : Type} [Cel α] (l : List α) : Plain (vecA l) := .vec (flat_plain l)

/-! ### A list that is being built -/

def lab : AV → Option Nat
  | .sl l _ _ _ => some l
  | _ => none
def AHeap.delv (H : AHeap) (y : AV) : AHeap := match lab y with | some l => H.del l | none => H
theorem AHeap.delv_next (H : AHeap) (y : AV) : (H.delv y).next = H.next := by unfold AHeap.delv; split <;> rfl
theorem AHeap.delv_get (H : AHeap) {y : AV} {q : Nat} (h : lab y ≠ some q) : (H.delv y).get q = H.get q := by
  unfold AHeap.delv
  split
  · rename_i l hl; exact AHeap.get_del_ne _ (fun e => h (by rw [hl, e]))
  · rfl

inductive Lst {α : Type} [Cel α] (t : TypeId) (b : Nat) (H : AHeap) : AV → List α → Prop
  | nil : Lst t b H (.v (.slice none 0 0)) []
  | sl {D : Nat} {l : List α} (hD : b ≤ D) (hN : D < H.next) (h : H.get D = some (.cells t (flat l))) : Lst t b H (.sl D 0 l.length (Cel.n α)) l

section
variable {α : Type} [Cel α] {t : TypeId} {b : Nat} {H H' : AHeap} {y : AV} {l : List α}
theorem Lst.mk {D n k : Nat} {cs : List AV} (hD : b ≤ D) (hN : D < H.next) (h : H.get D = some (.cells t cs)) (hc : cs = flat l) (hn : n = l.length) (hk : k = Cel.n α) : Lst t b H (.sl D 0 n k) l := by subst hc; subst hn; subst hk; exact .sl hD hN h
theorem Lst.isSl (h : Lst t b H y l) : IsSl y l.length := by cases h with | nil => exact .nil | sl => exact .sl
theorem Lst.one (h : Lst t b H y l) : y.one = true := by cases h <;> rfl
theorem Lst.at (h : Lst t b H y l) (hl : 0 < l.length) : ∃ D, y = .sl D 0 l.length (Cel.n α) ∧ b ≤ D ∧ D < H.next ∧ H.get D = some (.cells t (flat l)) := by
  cases h with
  | nil => simp at hl
  | sl hD hN h => exact ⟨_, rfl, hD, hN, h⟩
theorem Lst.lab_ne (h : Lst t b H y l) {q : Nat} (hq : q < b) : lab y ≠ some q := by
  cases h with
  | nil => simp [lab]
  | sl hD hN h => simp [lab]; omega
theorem Lst.lab_new (h : Lst t b H y l) {q : Nat} (hq : H.next ≤ q) : lab y ≠ some q := by
  cases h with
  | nil => simp [lab]
  | sl hD hN h => simp [lab]; omega
theorem Lst.keep (h : Lst t b H y l) (hk : ∀ D, b ≤ D → D < H.next → lab y = some D → H'.get D = H.get D) (hn : H.next ≤ H'.next) : Lst t b H' y l := by
  cases h with
  | nil => exact .nil
  | sl hD hN h => exact .sl hD (by omega) ((hk _ hD hN rfl).trans h)
theorem Lst.down {b' : Nat} (h : Lst t b H y l) (hb : b' ≤ b) : Lst t b' H y l := by
  cases h with
  | nil => exact .nil
  | sl hD hN h => exact .sl (by omega) hN h

theorem Lst.app (h : Lst t b H y l) (hb : b ≤ H.next) {m : List α} {n : Nat} (hn : n = l.length + m.length) {zs : List AV} (hz : zs = flat (l ++ m)) :
    Lst t b ((H.new (.cells t zs)).delv y) (.sl H.next 0 n (Cel.n α)) (l ++ m) := by
  subst hz
  refine .mk hb (by rw [AHeap.delv_next]; exact Nat.lt_succ_self _) (cs := flat (l ++ m)) ?_ rfl (by rw [hn]; simp) rfl
  rw [AHeap.delv_get _ (h.lab_new (Nat.le_refl _)), AHeap.get_new_same]

end

section
variable {P : Program} {o : Oper} {T : Fr} {H : AHeap} {TT : Nat → TI} (hT : TOk P TT) {α : Type} [Cel α]
include hT

theorem AStepD.append_lst {t t2 e : TypeId} {x z : Operand} {b n m k bk : Nat} {l : List α} {ys zs : List AV} {y src : AV} (ho : o.op = .call { callee := .builtin .append, args := #[x, z], argTypes := #[t, t2] }) (hx : aev T x = y) (hy : Lst e b H y l) (hz : aev T z = src)
    (hok : (TT t).ok = true) (hu : (TT t).und = .slice e) (hok2 : (TT t2).ok = true) (hu2 : (TT t2).und = .slice e) (hoke : (TT e).ok = true) (hk : (TT e).size = k) (hkn : k = Cel.n α) (hbk : Nat.ble (TT e).bytes bk = true) (hsrc : Src H k src n ys) (hys : ys.length = n * k) (hn : 0 < n)
    (hone : ∀ z ∈ ys, z.one = true) (hb : (l.length + n) * bk ≤ 140737488355328) (hm : l.length + n ≤ 9223372036854775807) (hmm : l.length + n = m) (hzs : flat l ++ ys = zs) :
    AStepD P o T H (.sl H.next 0 m k) ((H.new (.cells e zs)).delv y) := by
  subst hkn
  cases hy with
  | nil =>
    have := AStepD.append_nil' hT ho hx hz hok hu hok2 hu2 hoke hk hbk hsrc hys hn (by simpa using hb) (by simpa using hm)
    simp only [List.length_nil, Nat.zero_add] at hmm
    simp only [flat_nil, List.nil_append] at hzs
    subst hmm; subst hzs
    exact this
  | @sl D l hD hN h =>
    exact AStepD.append' hT ho hx hz hok hu hok2 hu2 hoke hk hbk h rfl (flat_length l) hsrc hys hone hb hm hmm hzs

theorem AStepD.indexAddr_flat {t e : TypeId} {x y : Operand} {i n kk : Nat} {k : IntKind} {j : Int} {l : List α} (ho : o.op = .indexAddr t x y) (hx : aev T x = .vec n (flat l)) (hn : n = l.length) (hy : aev T y = .v (.int k j)) (hok : (TT t).ok = true) (hu : (TT t).und = .slice e) (hoke : (TT e).ok = true) (hk : (TT e).size = kk)
    (hkn : kk = Cel.n α) (hj : j = (i : Int)) (hi : i < l.length) : AStepD P o T H (.ip (c l[i] ++ flat (l.drop (i + 1)))) H := by
  subst hkn; subst hn
  have := AStepD.indexAddr_vec' hT (H := H) ho hx hy hok hu hoke hk hj hi
  rwa [flat_drop_at l i hi] at this
end

theorem z9 (H : AHeap) {y : AV} {q : Nat} (h : lab y ≠ some q) : (H.delv y).get q = H.get q := AHeap.delv_get H h
theorem zd (H : AHeap) (y : AV) : (H.delv y).next = H.next := AHeap.delv_next H y
theorem AW.freeze' {P : Program} {cd : Code} {Q : APost} {T : Fr} {H : AHeap} {n l : Nat} {t : TypeId} {cs : List AV} (T' : Fr) (hl : H.get l = some (.cells t cs)) (hT : ∀ i, Frz l cs (look T i) (look T' i)) (h : AW md P cd Q T' (H.del l) n) : AW md P cd Q T H n := by
  intro ρ I w a hc ht hn hd
  obtain ⟨I', B, arr, hB, hI, hIb, hcl, hv, hc', ev⟩ := hc.freeze hl
  exact wpIn_mono (h ρ I' w a hc' (fun i => (hT i).cv hB hI hIb hcl hv (ht i)) hn (hd.ev ev)) fun _ _ _ f => f.of_ev ev

theorem AW.vecL {P : Program} {cd : Code} {Q : APost} {T : Fr} {H : AHeap} {n s : Nat} {α : Type} [Cel α] {t : TypeId} {b : Nat} {y : AV} {l : List α} (hy : Lst t b H y l) (hx : look T s = y) (h : AW md P cd Q ((s, vecA l) :: T) (H.delv y) n) : AW md P cd Q T H n := by
  cases hy with
  | nil =>
    intro ρ I w a hc ht hn hd
    refine h ρ I w a hc (fun i => ?_) hn hd
    rw [look_cons]
    split
    · rename_i e
      subst e
      have := ht i
      rw [hx] at this
      exact SubV.nil_vec ρ I _ this
    · exact ht i
  | @sl D l hD hN hc =>
    refine AW.freeze' _ hc (fun i => ?_) h
    rw [look_cons]
    split
    · rename_i e
      subst e
      rw [hx]
      have := Frz.sl (l := D) (cs := flat l) (off := 0) (len := l.length) (k := Cel.n α) (by rw [flat_length]; omega)
      rwa [List.drop_zero, ← flat_length, List.take_of_length_le (Nat.le_refl _)] at this
    · exact .same _
end Go.Ax
