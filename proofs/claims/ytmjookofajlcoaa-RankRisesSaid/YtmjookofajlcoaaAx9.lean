/- The abstract layer, part 9: literals, closures, calls, the begin and the end of a function, freezing. -/
import Derived.Test.YtmjookofajlcoaaAx8
namespace Go.Ax
variable {md : Md}

section
variable {P : Program} {o : Oper} {T : Fr} {H : AHeap} {TT : Nat → TI} (hT : TOk P TT)

theorem parts_ev {ρ : Rho} {I : Imm} {a : Act} (ht : TV ρ I T a) (parts : Array (Nat × Operand)) :
    ((parts.map fun (i, x) => (i, a.eval x)).toList.map (·.1) = (parts.toList.map fun p => (p.1, aev T p.2)).map (·.1)) ∧
    ∀ (i : Nat) p u, (parts.toList.map fun p => (p.1, aev T p.2))[i]? = some p → (parts.map fun (i, x) => (i, a.eval x)).toList[i]? = some u → CV ρ I p.2 u.2 := by
  refine ⟨by simp [Function.comp_def], fun i p u hp hu => ?_⟩
  simp only [List.getElem?_map, Array.toList_map] at hp hu
  cases hq : parts.toList[i]? with
  | none => rw [hq] at hp; cases hp
  | some q =>
    rw [hq] at hp hu
    cases hp; cases hu
    exact aev_cv ht q.2

/-- Where the fields of a struct lie. -/
def placesOf (TT : Nat → TI) (fs : Array Field) : Nat → Option (Nat × Nat) := fun i => (fs[i]?).map fun f => (f.offset, (TT f.type).size)

include hT

theorem run_places (w : World) : ∀ (l : List Field), (∀ f ∈ l, (TT f.type).ok = true) →
    (l.mapM fun (f : Field) => (do pure (f.offset, ← sizeOf f.type) : Sem (Nat × Nat))).run P w = .ok (l.map fun (f : Field) => (f.offset, (TT f.type).size)) w
  | [], _ => by simp
  | f :: r, h => by
    have h1 := (hT f.type (h f (by simp))).run_size w
    have ih := run_places w r (fun g hg => h g (by simp [hg]))
    simp only [List.mapM_cons, Sem.run_bind, h1, Result.andThen, ih, Sem.run_pure, List.map_cons]

theorem AStepD.build {t : TypeId} {parts : Array (Nat × Operand)} {fs : Array Field} {cs : List AV} (ho : o.op = .build t parts) (hok : (TT t).ok = true) (hu : (TT t).und = .struct fs) (hfs : ∀ f ∈ fs.toList, (TT f.type).ok = true)
    (hf : afill (placesOf TT fs) (AV.ofV (TT t).zero) (parts.toList.map fun p => (p.1, aev T p.2)) = some cs) (hone : ∀ p ∈ parts.toList.map (fun p => (p.1, aev T p.2)), ∀ x ∈ p.2.cells, x.one = true) : AStepD P o T H (.agg cs) H := by
  refine .of_pure fun ρ I w a _ ht => ?_
  obtain ⟨h1, h2⟩ := parts_ev ht parts
  obtain ⟨out, ho', hs, hv⟩ := fill_ok _ _ _ cs (TT t).zero.cells hf h1 h2 hone (by simp [AV.ofV]) (fun i a u ha hu => by
    simp only [AV.ofV, List.getElem?_map, Array.getElem?_toList, hu, Option.map_some, Option.some.injEq] at ha
    subst ha; exact .v u)
  refine ⟨.agg out, ?_, by simpa using CV.agg (vs := out.toList) (by simpa using hs) (by simpa using hv)⟩
  have hm := run_places hT w fs.toList hfs
  have hp : (fun i => (((fs.toList.map fun f => (f.offset, (TT f.type).size)).toArray)[i]?)) = placesOf TT fs := by
    funext i; simp [placesOf]
  have hm' : (fs.mapM fun (f : Field) => (do pure (f.offset, ← sizeOf f.type) : Sem (Nat × Nat))).run P w = .ok (fs.toList.map fun f => (f.offset, (TT f.type).size)).toArray w := by
    rw [Array.mapM_eq_mapM_toList]
    show ((fs.toList.mapM fun (f : Field) => (do pure (f.offset, ← sizeOf f.type) : Sem (Nat × Nat))) >>= fun l => pure l.toArray).run P w = _
    simp only [Sem.run_bind, hm, Result.andThen, Sem.run_pure]
  simp only [execOp, ho, Instr.build, Sem.run_bind, (hT t hok).run_zero w, Result.andThen, (hT t hok).run_und w, hu, hm', hp, ho', Sem.run_pure]

/-- An array literal. -/
theorem AStepD.build_arr {t e : TypeId} {n : Nat} {parts : Array (Nat × Operand)} {cs : List AV} (ho : o.op = .build t parts) (hok : (TT t).ok = true) (hu : (TT t).und = .array n e) (hoke : (TT e).ok = true)
    (hf : afill (fun i => some (i * (TT e).size, (TT e).size)) (AV.ofV (TT t).zero) (parts.toList.map fun p => (p.1, aev T p.2)) = some cs) (hone : ∀ p ∈ parts.toList.map (fun p => (p.1, aev T p.2)), ∀ x ∈ p.2.cells, x.one = true) : AStepD P o T H (.agg cs) H := by
  refine .of_pure fun ρ I w a _ ht => ?_
  obtain ⟨h1, h2⟩ := parts_ev ht parts
  obtain ⟨out, ho', hs, hv⟩ := fill_ok _ _ _ cs (TT t).zero.cells hf h1 h2 hone (by simp [AV.ofV]) (fun i a u ha hu => by
    simp only [AV.ofV, List.getElem?_map, Array.getElem?_toList, hu, Option.map_some, Option.some.injEq] at ha
    subst ha; exact .v u)
  refine ⟨.agg out, ?_, by simpa using CV.agg (vs := out.toList) (by simpa using hs) (by simpa using hv)⟩
  simp only [execOp, ho, Instr.build, Sem.run_bind, (hT t hok).run_zero w, Result.andThen, (hT t hok).run_und w, hu, (hT e hoke).run_size w, ho', Sem.run_pure]

omit hT in
theorem afill_length {place : Nat → Option (Nat × Nat)} : ∀ {parts : List (Nat × AV)} {cells res : List AV}, afill place cells parts = some res → res.length = cells.length
  | [], cells, res, h => by simp only [afill, Option.some.injEq] at h; rw [h]
  | (i, x) :: rest, cells, res, h => by
    simp only [afill] at h
    split at h
    · cases h
    · split at h
      · rename_i hh
        rw [afill_length h, over_length (by omega)]
      · cases h

/-- The cells of n zero values. -/
def zerosA (z : Value) (n : Nat) : List AV := (List.range (n * z.cells.size)).map fun i => .v (z.cells[i % z.cells.size]!)

theorem AStepD.buildSlice {t e : TypeId} {n k : Nat} {parts : Array (Nat × Operand)} {cs : List AV} (ho : o.op = .buildSlice t n parts) (hok : (TT t).ok = true) (hu : (TT t).und = .slice e) (hoke : (TT e).ok = true) (hk : (TT e).size = k) (hbig : n * k ≤ 16777216) (hn : n ≤ maxLen)
    (hf : afill (fun i => some (i * k, k)) (zerosA (TT e).zero n) (parts.toList.map fun p => (p.1, aev T p.2)) = some cs) (hone : ∀ p ∈ parts.toList.map (fun p => (p.1, aev T p.2)), ∀ x ∈ p.2.cells, x.one = true) :
    AStepD P o T H (.sl H.next 0 n k) (H.new (.cells e cs)) := by
  subst hk
  refine AStep.of_run fun ρ I w a hc ht => ?_
  obtain ⟨h1, h2⟩ := parts_ev ht parts
  have hzs := (hT e hoke).zs
  obtain ⟨zs, hzs'⟩ : ∃ zs : Array Value, zs = if n * (TT e).size = 0 then #[] else (TT e).zero.cells := ⟨_, rfl⟩
  have hzz : n * (TT e).size = 0 ∨ zs = (TT e).zero.cells := by
    by_cases h0 : n * (TT e).size = 0
    · exact .inl h0
    · right; rw [hzs', if_neg h0]
  obtain ⟨out, ho', hs, hv⟩ := fill_ok _ _ _ cs ((Array.range (n * (TT e).size)).map (zs[· % zs.size]!)) hf h1 h2 hone (by simp [zerosA, hzs]) (fun i a u ha hu => by
    simp only [zerosA, List.getElem?_map, Array.getElem?_map, hzs] at ha hu
    rcases hzz with hzz | rfl
    · rw [hzz] at ha; simp at ha
    · by_cases hi : i < n * (TT e).size
      · rw [List.getElem?_range hi] at ha
        rw [Array.getElem?_range, if_pos hi] at hu
        simp only [Option.map_some, Option.some.injEq] at ha hu
        subst ha; subst hu
        rw [hzs]
        exact .v _
      · rw [List.getElem?_eq_none (by simpa using hi)] at ha; cases ha)
  obtain ⟨hc', ev⟩ := hc.alloc (ty := e) (cs := cs) (arr := out) (by omega) hv
  have hlen : out.size = n * (TT e).size := by
    rw [hs, afill_length hf]
    simp [zerosA, hzs]
  refine ⟨.slice (some ⟨w.heap.size, 0, none⟩) n n, _, _, _, _, _, ?_, ⟨rfl, rfl⟩, .sl (B := ⟨w.heap.size, out.size⟩) (c := n) (by simp [Rho.new]) (Nat.le_refl _) hn (by simp [hlen]), hc', ev⟩
  have hnb : ¬ (n * (TT e).size > 2 ^ 24) := by omega
  have hnew : ∀ (w : World), (newRow e out).run P w = .ok ⟨w.heap.size, 0, none⟩ (w.alloc (.cells out e)) := fun w => by simp only [newRow, newObj, Sem.run_bind, Sem.run, Result.andThen]; rfl
  by_cases h0 : n * (TT e).size = 0
  · rw [if_pos h0] at hzs'
    subst hzs'
    simp only [execOp, ho, Instr.buildSlice, Sem.run_bind, (hT t hok).run_und w, hu, Result.andThen, (hT e hoke).run_size w, if_neg hnb, if_pos h0, Sem.run_pure, ho', hnew]
  · rw [if_neg h0] at hzs'
    subst hzs'
    simp only [execOp, ho, Instr.buildSlice, Sem.run_bind, (hT t hok).run_und w, hu, Result.andThen, (hT e hoke).run_size w, if_neg hnb, if_neg h0, (hT e hoke).run_zero w, Sem.run_pure, ho', hnew]

/-! ### Closures and calls -/

omit hT in
theorem AStepD.makeFunc {fn : Fn} {caps : Array Operand} (ho : o.op = .makeFunc fn #[] caps) : AStepD P o T H (.func fn (caps.toList.map (aev T))) H := by
  refine .of_pure fun ρ I w a _ ht => ⟨.func fn #[] (caps.map a.eval), by simp only [execOp, ho, Instr.makeFunc, Sem.run_bind, Sem.run_pure, Result.andThen, show (#[] : Array Operand).map a.eval = #[] from by simp], ?_⟩
  have : (caps.map a.eval) = (caps.toList.map a.eval).toArray := by apply Array.ext'; simp
  rw [this]
  refine .func (by simp) (fun i x u hx hu => ?_)
  rw [List.getElem?_map] at hx hu
  cases hq : caps.toList[i]? with
  | none => rw [hq] at hx; cases hx
  | some q => rw [hq] at hx hu; cases hx; cases hu; exact aev_cv ht q

omit hT in
theorem AStepD.makeInterface {t : TypeId} {x : Operand} (ho : o.op = .makeInterface t x) (hr : ∀ v w, (Instr.makeInterface t v).run P w = .ok (.iface t v) w) : AStepD P o T H (.iface t (aev T x)) H :=
  .of_pure fun ρ I w a _ ht => ⟨.iface t (a.eval x), by simp [execOp, ho, hr], .iface (aev_cv ht x)⟩

omit hT in
/-- A function that is entered when it is called. -/
def Enters (P : Program) (f : FuncId) : Prop := ∀ args w, (callFunc f args).run P w = .ok (.enter f args) w

omit hT in
theorem Enters.mk {f : FuncId} {fn : Func} (hf : P.funcs[f]? = some fn) (h1 : (fn.name == "runtime.NumGoroutine") = false) (h2 : fn.body.isNone = false) : Enters P f := by
  intro args w
  simp only [callFunc, program, Sem.run_bind, Sem.run, Result.andThen, hf, h1, h2, Bool.false_eq_true, if_false, Sem.run_pure]

omit hT in
theorem args_cvs {ρ : Rho} {I : Imm} {a : Act} (ht : TV ρ I T a) (xs : List Operand) : CVs ρ I (xs.map (aev T)) (xs.map a.eval) := by
  refine ⟨by simp, fun i x u hx hu => ?_⟩
  rw [List.getElem?_map] at hx hu
  cases hq : xs[i]? with
  | none => rw [hq] at hx; cases hx
  | some q => rw [hq] at hx hu; cases hx; cases hu; exact aev_cv ht q

omit hT in
/-- A call of a function value: its arguments, then what it captured. -/
theorem AStep.call {x : Operand} {args : Array Operand} {ats : Array TypeId} {f : FuncId} {caps : List AV} {K : AV → AHeap → Prop} (ho : o.op = .call { callee := .value x, args := args, argTypes := ats }) (hx : aev T x = .func (.func f) caps) (he : Enters P f)
    (h : ACalls P f (args.toList.map (aev T) ++ caps) H K) : AStep P o T H K := by
  intro ρ I w a hc ht Q
  have hv := aev_eq ht hx
  obtain ⟨vs, hvs, hl, hcv⟩ : ∃ vs : List Value, a.eval x = .func (.func f) #[] vs.toArray ∧ vs.length = caps.length ∧ ∀ (i : Nat) a u, caps[i]? = some a → vs[i]? = some u → CV ρ I a u := by
    generalize a.eval x = u at hv
    cases hv with
    | func hl hv => exact ⟨_, rfl, hl, hv⟩
  have hrun : (execOp a.eval o).run P w = .ok (.enter f (args.toList.map a.eval ++ vs).toArray) w := by
    have e1 : #[] ++ args.map a.eval ++ vs.toArray = (args.toList.map a.eval ++ vs).toArray := by apply Array.ext'; simp
    simp only [execOp, ho, resolve, hvs, Deferred.ofValue, Sem.run_bind, Sem.run_pure, Result.andThen, invoke]
    rw [e1]
    exact he _ w
  have hargs : CVs ρ I (args.toList.map (aev T) ++ caps) (args.toList.map a.eval ++ vs) := by
    obtain ⟨h1, h2⟩ := args_cvs ht args.toList
    exact ⟨by simp [hl], cv_append h1 h2 hcv⟩
  refine ⟨fun _ _ => trivial, ?_⟩
  rw [Fence.wide_round, Oper.semAt_none, hrun]
  refine ⟨fun hh => (by simp [Fence.wide] at hh), callsIn_wide.2 ((h ρ I w _ hc hargs).mono ?_)⟩
  rintro e w' ⟨u, r, ρ', I', H', rfl, hk, hr, hc', ev⟩
  exact ⟨u, r, ρ', I', H', rfl, hk, hr, hc', ev⟩

omit hT in
/-- A call by name. -/
theorem AStep.callf {f : FuncId} {args : Array Operand} {ats : Array TypeId} {K : AV → AHeap → Prop} (ho : o.op = .call { callee := .value (.func f), args := args, argTypes := ats }) (he : Enters P f)
    (h : ACalls P f (args.toList.map (aev T)) H K) : AStep P o T H K :=
  .call ho rfl he (by simpa using h)

end

/-! ### The begin and the end of a function -/

/-- What can be said of a heap and of values besides, in the same world: slices that nobody writes any more become values. -/
def Shift (H : AHeap) (xs : List AV) (H' : AHeap) (xs' : List AV) : Prop :=
  ∀ ρ I w us, Conc ρ I w H → CVs ρ I xs us → ∃ I', Conc ρ I' w H' ∧ CVs ρ I' xs' us ∧ Ev ρ I w H ρ I' w H'

theorem Shift.refl (H : AHeap) (xs : List AV) : Shift H xs H xs := fun ρ I w _ hc hx => ⟨I, hc, hx, .refl ρ I w H⟩
theorem Shift.trans {H H1 H2 : AHeap} {xs xs1 xs2 : List AV} (a : Shift H xs H1 xs1) (b : Shift H1 xs1 H2 xs2) : Shift H xs H2 xs2 := by
  intro ρ I w us hc hx
  obtain ⟨I1, hc1, hx1, ev1⟩ := a ρ I w us hc hx
  obtain ⟨I2, hc2, hx2, ev2⟩ := b ρ I1 w us hc1 hx1
  exact ⟨I2, hc2, hx2, ev1.trans ev2⟩
theorem Shift.drop {H H' : AHeap} (xs : List AV) (hs : SubH H H') : Shift H xs H' xs := fun _ I _ _ hc hx => ⟨I, hc.sub hs, hx, .sub hs⟩

/-- What a value says when location l is frozen. -/
inductive Frz (l : Nat) (cs : List AV) : AV → AV → Prop
  | same (x : AV) : Frz l cs x x
  | sl {off len k : Nat} (h : off + len * k ≤ cs.length) : Frz l cs (.sl l off len k) (.vec len ((cs.drop off).take (len * k)))
  | nil : Frz l cs (.v (.slice none 0 0)) (.vec 0 [])
  | any (x : AV) : Frz l cs x .any

theorem FrzT {l : Nat} {cs : List AV} {T T' : Fr} (hT : ∀ p ∈ T', Frz l cs (look T p.1) p.2) (i : Nat) : Frz l cs (look T i) (look T' i) := by
  induction T' with
  | nil => exact .any _
  | cons p r ih =>
    obtain ⟨j, x⟩ := p
    rw [look_cons]
    split
    · rename_i e; subst e; exact hT (i, x) (by simp)
    · exact ih fun q hq => hT q (by simp [hq])

theorem Frz.cv {ρ : Rho} {I I' : Imm} {l : Nat} {cs : List AV} {B : Blk} {arr : Array Value} (hB : ρ l = some B) (hI : ∀ b a, I b = some a → I' b = some a) (hIb : I' B.b = some arr) (hl : cs.length ≤ arr.size)
    (hv : ∀ (i : Nat) a u, cs[i]? = some a → arr[i]? = some u → CV ρ I a u) {x y : AV} (h : Frz l cs x y) {u : Value} (hu : CV ρ I x u) : CV ρ I' y u := by
  cases h with
  | same => exact hu.mono (fun _ _ h => h) hI
  | any => exact .any u
  | nil => cases hu; exact .vec0
  | @sl off len k hf =>
    cases hu with
    | @sl _ _ _ _ c B' hB' h1 h2 h3 =>
      rw [hB] at hB'; cases hB'
      refine .vec (vs := (arr.toList.drop off).take (len * k)) h1 h2 hIb (by simp; omega) (fun i u hu => ?_) (fun i a u ha hu => ?_)
      · rw [List.getElem?_take] at hu
        split at hu
        · rw [List.getElem?_drop] at hu; simpa using hu
        · cases hu
      · rw [List.getElem?_take] at hu ha
        split at hu
        · rename_i hj; rw [if_pos hj] at ha
          rw [List.getElem?_drop] at hu ha
          exact (hv _ a u ha (by simpa using hu)).mono (fun _ _ h => h) hI
        · cases hu

theorem Conc.freeze {ρ : Rho} {I : Imm} {w : World} {H : AHeap} (hc : Conc ρ I w H) {l : Nat} {t : TypeId} {cs : List AV} (hl : H.get l = some (.cells t cs)) :
    ∃ I' B arr, ρ l = some B ∧ (∀ b a, I b = some a → I' b = some a) ∧ I' B.b = some arr ∧ cs.length ≤ arr.size ∧ (∀ (i : Nat) a u, cs[i]? = some a → arr[i]? = some u → CV ρ I a u) ∧ Conc ρ I' w (H.del l) ∧ Ev ρ I w H ρ I' w (H.del l) := by
  obtain ⟨B, hB, hIB, arr, harr, hsz, hcl, hv⟩ := hc.obj l _ hl
  have hI : ∀ b a, I b = some a → (fun b => if b = B.b then some arr else I b) b = some a := by
    intro b a h
    show (if b = B.b then some arr else I b) = some a
    rw [if_neg]
    · exact h
    · rintro rfl; rw [hIB] at h; cases h
  have hs := SubH.del H l
  refine ⟨fun b => if b = B.b then some arr else I b, B, arr, hB, hI, by simp, hcl, hv, ⟨(hc.sub hs).inj, (hc.sub hs).dom, ?_, ?_⟩, ⟨fun _ _ h => h, hI, rfl, rfl, rfl, Nat.le_refl _, fun _ _ _ => rfl, fun _ _ h h' => h (h'.sub hs), Nat.le_refl _⟩⟩
  · intro k o hk
    by_cases e : k = l
    · subst e; rw [AHeap.get_del_same] at hk; cases hk
    · rw [AHeap.get_del_ne _ e] at hk
      obtain ⟨C, h1, h2, h3⟩ := hc.obj k o hk
      refine ⟨C, h1, ?_, h3.mono (fun _ _ h => h) hI rfl⟩
      show (if C.b = B.b then some arr else I C.b) = none
      rw [if_neg]
      · exact h2
      · intro eb
        exact e (hc.inj k l C B h1 hB (by simp [hk]) (by simp [hl]) eb)
  · intro b a hb
    change (if b = B.b then some arr else I b) = some a at hb
    split at hb
    · rename_i e; subst e; cases hb; exact ⟨t, (0, 0), harr⟩
    · exact hc.imm b a hb

/-- Freezing: no one writes to l any more. -/
theorem Shift.freeze {H : AHeap} {l : Nat} {t : TypeId} {cs xs xs' : List AV} (hl : H.get l = some (.cells t cs)) (hlen : xs'.length = xs.length) (h : ∀ (i : Nat) x y, xs[i]? = some x → xs'[i]? = some y → Frz l cs x y) : Shift H xs (H.del l) xs' := by
  intro ρ I w us hc hx
  obtain ⟨I', B, arr, hB, hI, hIb, hcl, hv, hc', ev⟩ := hc.freeze hl
  refine ⟨I', hc', ⟨by rw [hlen]; exact hx.1, fun i y u hy hu => ?_⟩, ev⟩
  have hi : i < xs.length := by rw [← hlen]; exact (List.getElem?_eq_some_iff.1 hy).1
  exact (h i xs[i] y (by simp [hi]) hy).cv hB hI hIb hcl hv (hx.2 i xs[i] u (by simp [hi]) hu)

/-- Freezing in the midst of a function. -/
theorem AW.freeze {P : Program} {c : Code} {Q : APost} {T : Fr} {H : AHeap} {n l : Nat} {t : TypeId} {cs : List AV} (T' : Fr) (hl : H.get l = some (.cells t cs)) (hT : ∀ p ∈ T', Frz l cs (look T p.1) p.2) (h : AW md P c Q T' (H.del l) n) : AW md P c Q T H n := by
  intro ρ I w a hc ht hn hd
  obtain ⟨I', B, arr, hB, hI, hIb, hcl, hv, hc', ev⟩ := hc.freeze hl
  exact wpIn_mono (h ρ I' w a hc' (fun i => (FrzT hT i).cv hB hI hIb hcl hv (ht i)) hn (hd.ev ev)) fun _ _ _ f => f.of_ev ev

/-! ### The begin and the end of a function -/

/-- What a function hands back. -/
def retA (TT : Nat → TI) (T : Fr) (H : AHeap) : List ResultVar → Option (List AV)
  | [] => some []
  | .tmp t :: r => (retA TT T H r).map (look T t :: ·)
  | .cell a t :: r =>
    match look T a with
    | .ptr l off =>
      match H.get l with
      | some (.cells _ cs) => if off + (TT t).size ≤ cs.length ∧ (TT t).ok = true ∧ ((TT t).agg = false → (TT t).size = 1) then (retA TT T H r).map (wrapA (TT t).agg ((cs.drop off).take (TT t).size) :: ·) else none
      | _ => none
    | _ => none

/-- One result, or a tuple of them. -/
def tupA : List AV → AV
  | [x] => x
  | xs => .tup xs

/-- One result. -/
def resOf (tmps : Array Value) : ResultVar → Sem Value
  | .tmp t => pure (tmps.getD t undef)
  | .cell c t => do loadVar t (← asAddr (tmps.getD c undef))

theorem run_results {P : Program} {TT : Nat → TI} (hT : TOk P TT) {ρ : Rho} {I : Imm} {w : World} {H : AHeap} {T : Fr} {a : Act} (hc : Conc ρ I w H) (ht : TV ρ I T a) : ∀ (rs : List ResultVar) (xs : List AV), retA TT T H rs = some xs →
    ∃ us, (rs.mapM (resOf a.tmps)).run P w = .ok us w ∧ CVs ρ I xs us
  | [], xs, h => by
    simp only [retA, Option.some.injEq] at h
    subst h
    exact ⟨[], by simp, rfl, by simp⟩
  | .tmp t :: r, xs, h => by
    simp only [retA] at h
    cases hr : retA TT T H r with
    | none => rw [hr] at h; cases h
    | some ys =>
      rw [hr] at h
      cases h
      obtain ⟨us, h1, h2, h3⟩ := run_results hT hc ht r ys hr
      refine ⟨a.tmps.getD t undef :: us, ?_, by simp [h2], fun i x u hx hu => ?_⟩
      · simp only [List.mapM_cons, resOf, Sem.run_bind, Sem.run_pure, Result.andThen, h1]
      · match i with
        | 0 => simp only [List.getElem?_cons_zero, Option.some.injEq] at hx hu; subst hx; subst hu; exact ht t
        | i + 1 => exact h3 i x u (by simpa using hx) (by simpa using hu)
  | .cell c t :: r, xs, h => by
    simp only [retA] at h
    split at h
    · rename_i l off hl
      split at h
      · rename_i ty cs hH
        split at h
        · rename_i hk
          cases hr : retA TT T H r with
          | none => rw [hr] at h; cases h
          | some ys =>
            rw [hr] at h
            cases h
            obtain ⟨us, h1, h2, h3⟩ := run_results hT hc ht r ys hr
            have hv := ht c
            rw [hl] at hv
            obtain ⟨B, hB, _, hat⟩ := hc.obj l _ hH
            obtain ⟨vs, hvl, hcell, hcv⟩ := obj_stretch hat hk.1
            have he : a.tmps.getD c undef = .pointer (some ⟨B.b, off, none⟩) := by
              generalize a.tmps.getD c undef = u at hv
              cases hv with | ptr h => rw [hB] at h; cases h; rfl
            refine ⟨(if (TT t).agg then .agg vs.toArray else vs.headD undef) :: us, ?_, by simp [h2], fun i x u hx hu => ?_⟩
            · simp only [List.mapM_cons, resOf, Sem.run_bind, he, asAddr, Sem.run_pure, Result.andThen, run_loadVar (hT t hk.2.1) hvl hk.2.2 hcell, h1]
            · match i with
              | 0 =>
                simp only [List.getElem?_cons_zero, Option.some.injEq] at hx hu
                subst hx; subst hu
                exact cv_wrap (by simp [hvl]; omega) hcv (by intro e; have := hk.2.2 e; simp; omega)
              | i + 1 => exact h3 i x u (by simpa using hx) (by simpa using hu)
        · cases h
      · cases h
    · cases h

/-- The post of a function's body: it has run to its end, and what it hands back, in the heap as it then is, is as R says. -/
def RetQ (TT : Nat → TI) (rs : Array ResultVar) (R : AV → AHeap → Prop) : APost := fun e T H =>
  (e = .normal ∨ e = .ret) ∧ ∃ xs x H', retA TT T H rs.toList = some xs ∧ Shift H [tupA xs] H' [x] ∧ R x H'

theorem Conc.putObj {ρ : Rho} {I : Imm} {w : World} {H : AHeap} (hc : Conc ρ I w H) {D : Nat} (o' : Obj) (ho : ¬ Owned ρ H D) (hI : I D = none) : Conc ρ I (w.putObj D o') H where
  inj := hc.inj
  dom := hc.dom
  obj l o h := by
    obtain ⟨B, hB, hIB, hO⟩ := hc.obj l o h
    have hne : B.b ≠ D := fun e => ho ⟨l, B, hB, e, by simp [h]⟩
    exact ⟨B, hB, hIB, hO.mono (fun _ _ h => h) (fun _ _ h => h) (World.putObj_heap_other hne)⟩
  imm b arr h := by
    have hne : b ≠ D := fun e => by subst e; rw [hI] at h; cases h
    obtain ⟨t, fz, hb⟩ := hc.imm b arr h
    exact ⟨t, fz, (World.putObj_heap_other hne).trans hb⟩

theorem Ev.putObj {ρ : Rho} {I : Imm} {w : World} {H : AHeap} {ρ' : Rho} {I' : Imm} {w' : World} {H' : AHeap} (e : Ev ρ I w H ρ' I' w' H') {D : Nat} (o : Obj) (hD : w.heap.size ≤ D) : Ev ρ I w H ρ' I' (w'.putObj D o) H' where
  rho := e.rho
  imm := e.imm
  os := e.os
  tape := e.tape
  output := e.output
  size := by rw [World.putObj_size]; exact e.size
  blk b hb ho := (World.putObj_heap_other (by omega)).trans (e.blk b hb ho)
  own := e.own
  next := e.next

/-- A frame that leaves with marks. -/
theorem leavesM_of {P : Program} {fn : Func} {tmps : Array Value} {R : Ending → World → Prop} {ρ0 : Rho} {I0 : Imm} {w0 : World} {H0 : AHeap} {ρ : Rho} {I : Imm} {H : AHeap} :
    ∀ {ds : List Deferred} {w : World}, DOK md ρ w H ds → w0.heap.size ≤ md.base → Conc ρ I w H → Ev ρ0 I0 w0 H0 ρ I w H →
      (∀ w', Conc ρ I w' H → Ev ρ0 I0 w0 H0 ρ I w' H → LeavesIn Fence.wide 0 P fn tmps R [] .returning w') → LeavesInM Fence.wide 0 P fn tmps R ds .returning w
  | [], w, _, _, hc, ev, k => k w hc ev
  | d :: ds, w, hd, hb, hc, ev, k => by
    obtain ⟨D, rfl, h1, h2, h3⟩ := hd.2.2 d (List.mem_cons_self ..)
    have hI : I D = none := by
      cases hi : I D with
      | none => rfl
      | some arr =>
        obtain ⟨t, fz, hh⟩ := hc.imm D arr hi
        rw [h2] at hh; cases hh
    refine ⟨by simp, .inl ⟨D, _, rfl, run_takeDeferred h2, ?_⟩⟩
    refine leavesM_of ⟨by rw [World.putObj_size]; exact hd.1, (List.nodup_cons.1 hd.2.1).2, fun d' hd' => ?_⟩ hb (hc.putObj _ h3 hI) (ev.putObj _ (Nat.le_trans hb h1)) k
    obtain ⟨D', rfl, h1', h2', h3'⟩ := hd.2.2 d' (List.mem_cons_of_mem _ hd')
    refine ⟨D', rfl, h1', (World.putObj_heap_other ?_).trans h2', h3'⟩
    rintro rfl
    exact (List.nodup_cons.1 hd.2.1).1 hd'

theorem ACalls.of_body {P : Program} {TT : Nat → TI} (hT : TOk P TT) {f : FuncId} {fn : Func} {c : Code} {args : List AV} {H : AHeap} {R : AV → AHeap → Prop} {n : Nat} (hf : P.funcs[f]? = some fn) (hb : fn.body = some c) (hn : fn.ntmps = n) (ha : args.length ≤ n)
    (h : ∀ base, AW { base := base } P c (RetQ TT fn.results R) (initT args) H n) : ACalls P f args H R := by
  intro ρ I w vs hc hvs
  refine (callsIn_wide (n := 0)).1 (callsIn_of_wp_marks hf hb trivial ?_)
  have hsz : vs.toArray.size = args.length := by simpa using hvs.1
  refine wpIn_mono (h w.heap.size ρ I w _ hc (initT_tv hvs _) (by simp [hn]; have := hvs.1; omega) (.nil (Nat.le_refl _))) ?_
  intro e a' w1 ⟨T', ρ', I', H', ⟨he, xs, x, H1, hr, hs, hR⟩, hc1, ht', hn', hd1, ev1⟩
  suffices LeavesInM Fence.wide 0 P fn a'.tmps (fun e w' => ∃ u r ρ' I' H', e = .returned u ∧ R r H' ∧ CV ρ' I' r u ∧ Conc ρ' I' w' H' ∧ Ev ρ I w H ρ' I' w' H') a'.defers .returning w1 by
    rcases he with rfl | rfl
    · exact this
    · exact this
  refine leavesM_of hd1 (Nat.le_refl _) hc1 ev1 fun w' hc' ev => ?_
  clear hd1 hc1 ev1
  obtain ⟨us, hrun, hus⟩ := run_results hT hc' ht' _ xs hr
  obtain ⟨u, hu, hcv⟩ : ∃ u, (results fn a'.tmps).run P w' = .ok u w' ∧ CV ρ' I' (tupA xs) u := by
    have hrun' : (fn.results.mapM (resOf a'.tmps)).run P w' = .ok us.toArray w' := by
      rw [Array.mapM_eq_mapM_toList]
      show ((fn.results.toList.mapM (resOf a'.tmps)) >>= fun l => (pure l.toArray : Sem (Array Value))).run P w' = _
      simp only [Sem.run_bind, hrun, Result.andThen, Sem.run_pure]
    have hres : results fn a'.tmps = (fn.results.mapM (resOf a'.tmps)) >>= fun vs => pure (if h : vs.size = 1 then vs[0] else .tuple vs) := by
      rfl
    rw [hres, Sem.run_bind, hrun']
    simp only [Result.andThen, Sem.run_pure]
    refine ⟨_, rfl, ?_⟩
    by_cases h1 : us.length = 1
    · obtain ⟨u, rfl⟩ := List.length_eq_one_iff.1 h1
      obtain ⟨y, rfl⟩ := List.length_eq_one_iff.1 (hus.1.symm.trans h1)
      exact hus.2 0 y u rfl rfl
    · have hx1 : xs.length ≠ 1 := by rw [← hus.1]; exact h1
      have : tupA xs = .tup xs := by
        match xs, hx1 with
        | [], _ => rfl
        | [_], h => exact (h rfl).elim
        | _ :: _ :: _, _ => rfl
      rw [this]
      simp only [List.size_toArray, h1, dite_false]
      exact .tup hus.1 hus.2
  obtain ⟨I2, hc2, hx2, ev2⟩ := hs ρ' I' w' [u] hc' ⟨rfl, fun i a v ha hv => by
    match i with
    | 0 => simp only [List.getElem?_cons_zero, Option.some.injEq] at ha hv; subst ha; subst hv; exact hcv
    | i + 1 => simp at ha⟩
  exact ⟨u, hu, u, x, ρ', I2, H1, rfl, hR, hx2.2 0 x u rfl rfl, hc2, ev.trans ev2⟩

end Go.Ax
