/- The abstract layer, part 25: maps whose keys are integers. -/
import Derived.Test.YtmjookofajlcoaaAx24
import Derived.MapKept
namespace Go.Ax

/-- A map's entries whose keys are integers. -/
def imap (k : IntKind) (es : List (Int × AV)) : List (Value × AV) := es.map fun p => (.int k p.1, p.2)
def getI (es : List (Int × AV)) (n : Int) : Option AV :=
  match es with
  | [] => none
  | p :: r => if p.1 = n then some p.2 else getI r n
def putI (es : List (Int × AV)) (n : Int) (v : AV) : List (Int × AV) :=
  match es with
  | [] => [(n, v)]
  | p :: r => if p.1 = n then (n, v) :: r else p :: putI r n v
def delI (es : List (Int × AV)) (n : Int) : List (Int × AV) :=
  match es with
  | [] => []
  | p :: r => if p.1 = n then r else p :: delI r n

theorem findNow_int {k : IntKind} {n : Int} : ∀ (es : List (Int × AV)) (ents : List MapEntry) (i : Nat), ents.length = es.length → (∀ (i : Nat) e en, es[i]? = some e → ents[i]? = some en → en.key = .int k e.1) →
    (Instr.findNow (.int k) (.int k n) ents i = some none ∧ getI es n = none ∧ (∀ v, putI es n v = es ++ [(n, v)]) ∧ delI es n = es) ∨
    ∃ j en a, Instr.findNow (.int k) (.int k n) ents i = some (some (i + j, en.val)) ∧ ents[j]? = some en ∧ en.key = .int k n ∧ es[j]? = some (n, a) ∧ getI es n = some a ∧ (∀ v, putI es n v = es.set j (n, v)) ∧ delI es n = es.eraseIdx j
  | [], [], i, _, _ => .inl ⟨rfl, rfl, fun _ => rfl, rfl⟩
  | [], e :: es, i, h, _ => by simp at h
  | p :: r, [], i, h, _ => by simp at h
  | p :: r, en :: ents, i, h, hk => by
    have h0 := hk 0 p en rfl rfl
    by_cases hp : p.1 = n
    · refine .inr ⟨0, en, p.2, ?_, rfl, by rw [h0, hp], by rw [← hp]; rfl, by simp [getI, hp], fun v => by simp [putI, hp], by simp [delI, hp]⟩
      simp [Instr.findNow, Instr.sameNow, h0, hp]
    · have hs : Instr.sameNow (.int k) (.int k n) en.key = some false := by
        simp [Instr.sameNow, h0]
        exact fun e => hp e.symm
      rcases findNow_int (n := n) r ents (i + 1) (by simpa using h) (fun i e en' h1 h2 => hk (i + 1) e en' (by simpa using h1) (by simpa using h2)) with ⟨h1, h2, h3, h4⟩ | ⟨j, en', a, h1, h2, h3, h4, h5, h6, h7⟩
      · refine .inl ⟨?_, by simp [getI, hp, h2], fun v => by simp [putI, hp, h3], by simp [delI, hp, h4]⟩
        simp only [Instr.findNow, hs, h1]
      · refine .inr ⟨j + 1, en', a, ?_, by simpa using h2, h3, by simpa using h4, by simp [getI, hp, h5], fun v => by simp [putI, hp, h6], by simp [delI, hp, h7]⟩
        simp only [Instr.findNow, hs, h1]
        congr 3
        omega

theorem map_eraseIdxA {α β : Type} (f : α → β) : ∀ (l : List α) (j : Nat), (l.map f).eraseIdx j = (l.eraseIdx j).map f
  | [], _ => by simp
  | _ :: _, 0 => by simp
  | a :: r, j + 1 => by simp [map_eraseIdxA f r j]
theorem imap_get {k : IntKind} {es : List (Int × AV)} {i : Nat} {e : Int × AV} (h : es[i]? = some e) : (imap k es)[i]? = some (.int k e.1, e.2) := by simp [imap, h]

section
variable {P : Program} {o : Oper} {T : Fr} {H : AHeap} {TT : Nat → TI} (hT : TOk P TT)
include hT

omit hT in
theorem AStepD.makeMap {t : TypeId} (ho : o.op = .makeMap t none) : AStepD P o T H (.map H.next) (H.new (.map [])) := by
  refine AStep.of_run fun ρ I w a hc ht => ?_
  obtain ⟨hc', ev⟩ := hc.new (o := .map []) (w' := w.alloc (.map #[] 0)) 0 (by simp) (fun k hk => RowKit.Below.heap_alloc w _ k hk) ⟨#[], 0, heap_alloc_new w _, rfl, by simp, by simp, by simp⟩ rfl rfl rfl
  refine ⟨.map (some w.heap.size), _, _, _, _, _, ?_, ⟨rfl, rfl⟩, .map (B := ⟨w.heap.size, 0⟩) (by simp [Rho.new]), hc', ev⟩
  simp [execOp, ho, Instr.makeMap, newObj, Sem.run]

theorem AStepD.lookup {t kt et : TypeId} {x y : Operand} {l : Nat} {k : IntKind} {n : Int} {es : List (Int × AV)} {g : Option AV} (ho : o.op = .lookup t x y true) (hx : aev T x = .map l) (hy : aev T y = .v (.int k n)) (hok : (TT t).ok = true) (hu : (TT t).und = .map kt et)
    (hokk : (TT kt).ok = true) (huk : (TT kt).und = .int k) (hoke : (TT et).ok = true) (hH : H.get l = some (.map (imap k es))) (hg : getI es n = g) : AStepD P o T H (.tup [g.getD (.v (TT et).zero), .v (.bool g.isSome)]) H := by
  subst hg
  refine .of_pure fun ρ I w a hc ht => ?_
  have hv := aev_eq ht hx
  have hyv := cv_v (aev_eq ht hy)
  generalize he : a.eval x = u at hv
  cases hv with
  | @map _ B hB =>
    obtain ⟨B', hB', _, ents, clock, h1, h2, h3, h4, h5⟩ := hc.obj l _ hH
    rw [hB] at hB'; cases hB'
    have hkey : MapKept.IsKey (.int k) (.int k n) := by simp [MapKept.IsKey]
    have hd : P.underlying kt = some (.int k) := by rw [(hT kt hokk).und, huk]
    have hes : ∀ (i : Nat) e en, es[i]? = some e → ents.toList[i]? = some en → en.key = .int k e.1 := fun i e en q1 q2 => (h3 i _ en (imap_get q1) (by simpa using q2)).1
    rcases findNow_int (n := n) es ents.toList 0 (by simpa [imap] using h2) hes with ⟨f1, f2, -, -⟩ | ⟨j, en, b, f1, f2, f3, f4, f5, -, -⟩
    · refine ⟨.tuple #[(TT et).zero, .bool false], ?_, ?_⟩
      · simp [execOp, ho, he, hyv, Instr.lookup, (hT t hok).run_und w, hu, MapKept.run_getObj_map h1, MapKept.run_checkKey hd hkey, MapKept.run_findKey hd f1, (hT et hoke).run_zero w, Result.andThen]
      · rw [f2]
        exact CV.tup (vs := [_, _]) rfl fun i a u ha hu => by
          match i with
          | 0 => simp at ha hu; subst ha; subst hu; exact .v _
          | 1 => simp at ha hu; subst ha; subst hu; exact .v _
          | i + 2 => simp at ha
    · refine ⟨.tuple #[en.val, .bool true], ?_, ?_⟩
      · simp [execOp, ho, he, hyv, Instr.lookup, (hT t hok).run_und w, hu, MapKept.run_getObj_map h1, MapKept.run_checkKey hd hkey, MapKept.run_findKey hd f1, Result.andThen]
      · rw [f5]
        have := (h3 j _ en (imap_get f4) (by simpa using f2)).2
        exact CV.tup (vs := [_, _]) rfl fun i a u ha hu => by
          match i with
          | 0 => simp at ha hu; subst ha; subst hu; exact this
          | 1 => simp at ha hu; subst ha; subst hu; exact .v _
          | i + 2 => simp at ha

theorem AStepD.mapUpdate {t kt et : TypeId} {x y z : Operand} {l : Nat} {k : IntKind} {n : Int} {es es' : List (Int × AV)} {v : AV} (ho : o.op = .mapUpdate t x y z) (hx : aev T x = .map l) (hy : aev T y = .v (.int k n)) (hz : aev T z = v) (hok : (TT t).ok = true) (hu : (TT t).und = .map kt et)
    (hokk : (TT kt).ok = true) (huk : (TT kt).und = .int k) (hH : H.get l = some (.map (imap k es))) (hes' : putI es n v = es') : AStepD P o T H .any (H.set l (.map (imap k es'))) := by
  subst hes'; subst hz
  refine AStep.of_skip fun ρ I w a hc ht => ?_
  have hv := aev_eq ht hx
  have hyv := cv_v (aev_eq ht hy)
  have hzv := aev_cv ht z
  generalize he : a.eval x = u at hv
  cases hv with
  | @map _ B hB =>
    obtain ⟨B', hB', _, ents, clock, h1, h2, h3, h4, h5⟩ := hc.obj l _ hH
    rw [hB] at hB'; cases hB'
    have hkey : MapKept.IsKey (.int k) (.int k n) := by simp [MapKept.IsKey]
    have hd : P.underlying kt = some (.int k) := by rw [(hT kt hokk).und, huk]
    have hlt : B.b < w.heap.size := (Array.getElem?_eq_some_iff.1 h1).1
    have hes : ∀ (i : Nat) e en, es[i]? = some e → ents.toList[i]? = some en → en.key = .int k e.1 := fun i e en q1 q2 => (h3 i _ en (imap_get q1) (by simpa using q2)).1
    have hl2 : ents.size = es.length := by simpa [imap] using h2
    rcases findNow_int (n := n) es ents.toList 0 (by simpa [imap] using h2) hes with ⟨f1, f2, f3, -⟩ | ⟨j, en, b, f1, f2, f3, f4, f5, f6, -⟩
    · rw [f3]
      obtain ⟨hc', ev⟩ := hc.set (o' := .map (imap k (es ++ [(n, aev T z)]))) hH hB (w' := { w with heap := w.heap.setIfInBounds B.b (.map (ents.push ⟨.int k n, a.eval z, clock⟩) (clock + 1)) }) (by simp) (fun q hq => by simp [Ne.symm hq])
        ⟨ents.push ⟨.int k n, a.eval z, clock⟩, clock + 1, by simp [hlt], by simp [imap, hl2], fun i e en q1 q2 => by
          by_cases hi : i < es.length
          · rw [Array.getElem?_push_lt (by omega)] at q2
            simp only [imap, List.map_append] at q1
            rw [List.getElem?_append_left (by simpa using hi)] at q1
            exact h3 i e en q1 (by simpa [hl2, hi] using q2)
          · simp only [imap, List.map_append] at q1
            rw [List.getElem?_append_right (by simp; omega)] at q1
            have h0 : i - (es.map fun p => ((Value.int k p.1, p.2) : Value × AV)).length = 0 := by
              have := (List.getElem?_eq_some_iff.1 q1).1
              simp at this ⊢; omega
            rw [h0] at q1
            simp at q1 h0
            have : i = ents.size := by omega
            subst this
            simp at q2
            subst q1; subst q2
            exact ⟨rfl, hzv⟩, fun i en q => by
          by_cases hi : i < ents.size
          · rw [Array.getElem?_push_lt hi] at q
            have := h4 i en (by simpa [hi] using q)
            omega
          · have : i = ents.size := by have := (Array.getElem?_eq_some_iff.1 q).1; simp at this; omega
            subst this
            simp at q
            subst q
            simp, fun i j x y q1 q2 hxy => by
          have ci : i < ents.size ∨ i = ents.size := by have := (Array.getElem?_eq_some_iff.1 q1).1; simp at this; omega
          have cj : j < ents.size ∨ j = ents.size := by have := (Array.getElem?_eq_some_iff.1 q2).1; simp at this; omega
          rcases ci with ci | rfl <;> rcases cj with cj | rfl
          · rw [Array.getElem?_push_lt ci] at q1
            rw [Array.getElem?_push_lt cj] at q2
            exact h5 i j x y (by simpa [ci] using q1) (by simpa [cj] using q2) hxy
          · rw [Array.getElem?_push_lt ci] at q1
            simp at q2
            subst q2
            have := h4 i x (by simpa [ci] using q1)
            simp at hxy; omega
          · rw [Array.getElem?_push_lt cj] at q2
            simp at q1
            subst q1
            have := h4 j y (by simpa [cj] using q2)
            simp at hxy; omega
          · rfl⟩ rfl rfl rfl
      refine ⟨_, ρ, I, _, ?_, ⟨rfl, rfl⟩, hc', ev⟩
      simp [execOp, ho, he, hyv, Instr.mapUpdate, (hT t hok).run_und w, hu, MapKept.run_getObj_map h1, MapKept.run_checkKey hd hkey, MapKept.run_findKey hd f1, MapKept.run_setObj_map _ h1, Result.andThen]
    · rw [f6]
      have hj : ents[j]? = some en := by simpa using f2
      have hjl : j < ents.size := (Array.getElem?_eq_some_iff.1 hj).1
      have hmod : ∀ (i : Nat) x, (ents.modify j fun e => { e with key := .int k n, val := a.eval z })[i]? = some x → ∃ y, ents[i]? = some y ∧ x.born = y.born ∧ (i ≠ j → x = y) ∧ (i = j → x.key = .int k n ∧ x.val = a.eval z) := by
        intro i x q
        rw [Array.getElem?_modify] at q
        split at q
        · rename_i e
          subst e
          rw [hj] at q
          simp at q
          subst q
          exact ⟨en, hj, rfl, fun h => (h rfl).elim, fun _ => ⟨rfl, rfl⟩⟩
        · rename_i e
          exact ⟨x, q, rfl, fun _ => rfl, fun h => (e h.symm).elim⟩
      obtain ⟨hc', ev⟩ := hc.set (o' := .map (imap k (es.set j (n, aev T z)))) hH hB (w' := { w with heap := w.heap.setIfInBounds B.b (.map (ents.modify j fun e => { e with key := .int k n, val := a.eval z }) clock) }) (by simp) (fun q hq => by simp [Ne.symm hq])
        ⟨ents.modify j fun e => { e with key := .int k n, val := a.eval z }, clock, by simp [hlt], by simp [imap, hl2], fun i e en' q1 q2 => by
          obtain ⟨y', hy', hb', hne, heq⟩ := hmod i en' q2
          by_cases hij : i = j
          · subst hij
            simp only [imap, List.map_set] at q1
            rw [List.getElem?_set_self (by simp; omega)] at q1
            simp at q1
            subst q1
            exact ⟨(heq rfl).1, by rw [(heq rfl).2]; exact hzv⟩
          · simp only [imap, List.map_set] at q1
            rw [List.getElem?_set_ne (Ne.symm hij)] at q1
            rw [hne hij]
            exact h3 i e y' q1 hy', fun i en' q => by
          obtain ⟨y', hy', hb', _⟩ := hmod i en' q
          rw [hb']
          exact h4 i y' hy', fun i i' x y q1 q2 hxy => by
          obtain ⟨x', hx', hb1, _⟩ := hmod i x q1
          obtain ⟨y', hy', hb2, _⟩ := hmod i' y q2
          exact h5 i i' x' y' hx' hy' (by rw [← hb1, ← hb2, hxy])⟩ rfl rfl rfl
      refine ⟨_, ρ, I, _, ?_, ⟨rfl, rfl⟩, hc', ev⟩
      have hst : (Instr.keyThatStays (.int k n) (.int k n)).run P w = .ok (.int k n) w := MapKept.run_keyThatStays hkey
      simp [execOp, ho, he, hyv, Instr.mapUpdate, (hT t hok).run_und w, hu, MapKept.run_getObj_map h1, MapKept.run_checkKey hd hkey, MapKept.run_findKey hd f1, hj, f3, hst, MapKept.run_setObj_map _ h1, Result.andThen]

theorem AStepD.delete {t kt et ky : TypeId} {x y : Operand} {l : Nat} {k : IntKind} {n : Int} {es es' : List (Int × AV)} (ho : o.op = .call { callee := .builtin .delete, args := #[x, y], argTypes := #[t, ky] }) (hx : aev T x = .map l) (hy : aev T y = .v (.int k n)) (hok : (TT t).ok = true) (hu : (TT t).und = .map kt et)
    (hokk : (TT kt).ok = true) (huk : (TT kt).und = .int k) (hH : H.get l = some (.map (imap k es))) (hes' : delI es n = es') : AStepD P o T H .any (H.set l (.map (imap k es'))) := by
  subst hes'
  refine AStep.of_run fun ρ I w a hc ht => ?_
  have hv := aev_eq ht hx
  have hyv := cv_v (aev_eq ht hy)
  generalize he : a.eval x = u at hv
  cases hv with
  | @map _ B hB =>
    obtain ⟨B', hB', _, ents, clock, h1, h2, h3, h4, h5⟩ := hc.obj l _ hH
    rw [hB] at hB'; cases hB'
    have hkey : MapKept.IsKey (.int k) (.int k n) := by simp [MapKept.IsKey]
    have hd : P.underlying kt = some (.int k) := by rw [(hT kt hokk).und, huk]
    have hlt : B.b < w.heap.size := (Array.getElem?_eq_some_iff.1 h1).1
    have hes : ∀ (i : Nat) e en, es[i]? = some e → ents.toList[i]? = some en → en.key = .int k e.1 := fun i e en q1 q2 => (h3 i _ en (imap_get q1) (by simpa using q2)).1
    have hl2 : ents.size = es.length := by simpa [imap] using h2
    rcases findNow_int (n := n) es ents.toList 0 (by simpa [imap] using h2) hes with ⟨f1, f2, -, f3⟩ | ⟨j, en, b, f1, f2, f3, f4, f5, -, f6⟩
    · rw [f3]
      obtain ⟨hc', ev⟩ := hc.set (o' := .map (imap k es)) hH hB (w' := { w with heap := w.heap.setIfInBounds B.b (.map ents clock) }) (by simp) (fun q hq => by simp [Ne.symm hq])
        ⟨ents, clock, by simp [hlt], h2, h3, h4, h5⟩ rfl rfl rfl
      refine ⟨.tuple #[], _, .any, ρ, I, _, run_builtin ho a w ?_, ⟨rfl, rfl⟩, .any _, hc', ev⟩
      rw [show (#[x, y] : Array Operand).map a.eval = #[a.eval x, a.eval y] from by simp, he, hyv]
      simp [builtin, Builtin.delete_, (hT t hok).run_und w, hu, MapKept.run_getObj_map h1, MapKept.run_checkKey hd hkey, MapKept.run_findKey hd f1, MapKept.run_setObj_map _ h1, Result.andThen]
    · rw [f6]
      have hj : ents[j]? = some en := by simpa using f2
      have hjl : j < ents.size := (Array.getElem?_eq_some_iff.1 hj).1
      have her : ∀ (i : Nat) x, (ents.eraseIdxIfInBounds j)[i]? = some x → ents[if i < j then i else i + 1]? = some x := by
        intro i x q
        have e1 : (ents.eraseIdxIfInBounds j).toList = ents.toList.eraseIdx j := by simp [Array.eraseIdxIfInBounds, hjl]
        rw [← Array.getElem?_toList, e1, List.getElem?_eraseIdx] at q
        split at q
        · rename_i h; rw [if_pos h]; simpa using q
        · rename_i h; rw [if_neg h]; simpa using q
      obtain ⟨hc', ev⟩ := hc.set (o' := .map (imap k (es.eraseIdx j))) hH hB (w' := { w with heap := w.heap.setIfInBounds B.b (.map (ents.eraseIdxIfInBounds j) clock) }) (by simp) (fun q hq => by simp [Ne.symm hq])
        ⟨ents.eraseIdxIfInBounds j, clock, by simp [hlt], by
          have e1 : (ents.eraseIdxIfInBounds j).size = ents.size - 1 := by simp [Array.eraseIdxIfInBounds, hjl]
          have : j < es.length := by omega
          rw [e1]
          simp [imap, List.length_eraseIdx, this]
          omega, fun i e en' q1 q2 => by
          refine h3 (if i < j then i else i + 1) e en' ?_ (her i en' q2)
          simp only [imap] at q1
          rw [← map_eraseIdxA] at q1
          rw [List.getElem?_eraseIdx] at q1
          simp only [imap]
          split at q1
          · rename_i h; rw [if_pos h]; exact q1
          · rename_i h; rw [if_neg h]; exact q1, fun i en' q => h4 _ en' (her i en' q), fun i i' x y q1 q2 hxy => by
          have := h5 _ _ x y (her i x q1) (her i' y q2) hxy
          split at this <;> split at this <;> omega⟩ rfl rfl rfl
      refine ⟨.tuple #[], _, .any, ρ, I, _, run_builtin ho a w ?_, ⟨rfl, rfl⟩, .any _, hc', ev⟩
      rw [show (#[x, y] : Array Operand).map a.eval = #[a.eval x, a.eval y] from by simp, he, hyv]
      simp [builtin, Builtin.delete_, (hT t hok).run_und w, hu, MapKept.run_getObj_map h1, MapKept.run_checkKey hd hkey, MapKept.run_findKey hd f1, MapKept.run_setObj_map _ h1, Result.andThen]
end

theorem AStepD.callv {P : Program} {o : Oper} {T : Fr} {H H1 : AHeap} {y : AV} {x : Operand} {f : FuncId} {args : Array Operand} {ats : Array TypeId} {as caps : List AV} (ho : o.op = .call { callee := .value x, args := args, argTypes := ats }) (hx : aev T x = .func (.func f) caps) (he : Enters P f)
    (ha : args.toList.map (aev T) ++ caps = as) (h : ACalls P f as H fun r H' => r = y ∧ H' = H1) : AStepD P o T H y H1 := by
  subst ha
  exact AStep.call ho hx he h
theorem AStepD.val {P : Program} {o : Oper} {T : Fr} {H H1 : AHeap} {x y : AV} (h : AStepD P o T H x H1) (e : x = y) : AStepD P o T H y H1 := e ▸ h
theorem AStepD.bool {P : Program} {o : Oper} {T : Fr} {H H1 : AHeap} {b c : Bool} (h : AStepD P o T H (.v (.bool b)) H1) (e : b = c) : AStepD P o T H (.v (.bool c)) H1 := e ▸ h

theorem AStepD.weak {P : Program} {o : Oper} {T : Fr} {H H1 : AHeap} {x y : AV} (h : AStepD P o T H x H1) (hs : SubV x y) : AStepD P o T H y H1 := by
  intro ρ I w a hc ht Q
  refine Oper.wpIn_mono ?_ (h ρ I w a hc ht Q)
  rintro a' w' ⟨u, x, ρ', I', H', ha, ⟨rfl, rfl⟩, hx, hc', ev⟩
  exact ⟨u, y, ρ', I', _, ha, ⟨rfl, rfl⟩, hs _ _ _ hx, hc', ev⟩

section
variable {P : Program} {o : Oper} {T : Fr} {H : AHeap} {TT : Nat → TI} (hT : TOk P TT)
include hT
theorem AStepD.overlaps {t tr e : TypeId} {x y : Operand} {ats : Array TypeId} {f : FuncId} {fn : Func} {l1 l2 off1 off2 n1 n2 k : Nat} {c1 c2 : TypeId} {cs1 cs2 : List AV} (ho : o.op = .call { callee := .value (.func f), args := #[x, y], argTypes := ats }) (hf : P.funcs[f]? = some fn)
    (hname : (fn.name == "runtime.NumGoroutine") = false) (hb : fn.body.isNone = true) (hn : Extern.findNext fn = none) (he : Extern.find fn = some (Extern.SlicesOverlaps.overlaps #[t, t] #[tr]))
    (hok : (TT t).ok = true) (hu : (TT t).und = .slice e) (hoke : (TT e).ok = true) (hx : SubV (aev T x) (.sl l1 off1 n1 k)) (hy : SubV (aev T y) (.sl l2 off2 n2 k)) (h1 : H.get l1 = some (.cells c1 cs1)) (h2 : H.get l2 = some (.cells c2 cs2)) (hne : l1 ≠ l2) (hpos : 0 < cs2.length) (ho1 : off1 = 0) :
    AStepD P o T H (.v (.bool false)) H := by
  subst ho1
  refine AStepD.extern ho hf hname hb hn he fun ρ I w a hc ht => ⟨_, ?_, .v _⟩
  have hv1 := hx _ _ _ (aev_cv ht x)
  have hv2 := hy _ _ _ (aev_cv ht y)
  rw [show (#[x, y] : Array Operand).map a.eval = #[a.eval x, a.eval y] from by simp]
  generalize a.eval x = u1 at hv1 ⊢
  generalize a.eval y = u2 at hv2 ⊢
  obtain ⟨B1, hB1, _, arr1, g1, g2, g3, g4⟩ := hc.obj l1 _ h1
  obtain ⟨B2, hB2, _, arr2, k1, k2, k3, k4⟩ := hc.obj l2 _ h2
  have hbne : B1.b ≠ B2.b := fun e => hne (hc.inj l1 l2 B1 B2 hB1 hB2 (by simp [h1]) (by simp [h2]) e)
  cases hv1 with
  | @sl _ _ _ _ q1 B hB hl1 hm1 hs1 =>
    rw [hB1] at hB; cases hB
    cases hv2 with
    | @sl _ _ _ _ q2 B hB hl2 hm2 hs2 =>
      rw [hB2] at hB; cases hB
      exact Lib.run_overlaps_apart w t tr e (by rw [(hT t hok).und, hu]) (TT e).size (fun w => (hT e hoke).run_size w) ⟨B1.b, 0, none⟩ ⟨B2.b, off2, none⟩ n1 q1 n2 q2 hbne c1 c2 arr1.size arr2.size
        (by simp [World.shape?, g1]) (by simp [World.shape?, k1]) (by omega) (by simp [World.frozen?, g1]) (by simp [World.frozen?, g1])
end
end Go.Ax
