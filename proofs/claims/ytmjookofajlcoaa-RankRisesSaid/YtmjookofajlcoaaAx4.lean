/- The abstract layer, part 4: what the model knows of types, as a table; operations on values, loads, stores, new variables. -/
import Derived.Test.YtmjookofajlcoaaAx3
namespace Go.Ax

/-- What the layer asks of a type. -/
structure TI where
  und : TypeDesc
  agg : Bool
  size : Nat
  bytes : Nat
  zero : Value
  ok : Bool

def aggOf : TypeDesc → Bool
  | .struct _ | .array _ _ => true
  | _ => false

structure OkT (P : Program) (t : TypeId) (i : TI) : Prop where
  und : P.underlying t = some i.und
  info : ∃ f, P.info? t = some f ∧ f.zero = some i.zero ∧ f.size = i.size ∧ f.bytes = i.bytes
  agg : i.agg = aggOf i.und
  zs : i.zero.cells.size = i.size

/-- The table is the program's. -/
def TOk (P : Program) (TT : Nat → TI) : Prop := ∀ t, (TT t).ok = true → OkT P t (TT t)

section
variable {P : Program} {t : TypeId} {i : TI} (h : OkT P t i) (w : World)
include h
theorem OkT.run_und : (underlying t).run P w = .ok i.und w := run_underlying h.und w
theorem OkT.run_info : ∃ f, (typeInfo t).run P w = .ok f w ∧ f.zero = some i.zero ∧ f.size = i.size ∧ f.bytes = i.bytes := by
  obtain ⟨f, hf, r⟩ := h.info
  exact ⟨f, by simp [typeInfo, hf], r⟩
theorem OkT.run_size : (sizeOf t).run P w = .ok i.size w := by
  obtain ⟨f, hf, _, hs, _⟩ := h.run_info w
  simp [sizeOf, hf, hs]
theorem OkT.run_zero : (zeroValue t).run P w = .ok i.zero w := by
  obtain ⟨f, hf, hz, _⟩ := h.run_info w
  simp [zeroValue, hf, hz]
theorem OkT.run_agg : (isAgg t).run P w = .ok i.agg w := by
  unfold isAgg
  rw [Sem.run_bind, h.run_und w, h.agg]
  simp only [Result.andThen]
  cases i.und <;> rfl
end

/-- An operation whose value and whose heap behind it are known. -/
def AStepD (P : Program) (o : Oper) (T : Fr) (H : AHeap) (x : AV) (H1 : AHeap) : Prop := AStep P o T H fun y H' => y = x ∧ H' = H1

section
variable {P : Program} {o : Oper} {T : Fr} {H : AHeap}

theorem AStepD.of_pure {x : AV} (h : ∀ ρ I w a, Conc ρ I w H → TV ρ I T a → ∃ u, (execOp a.eval o).run P w = .ok (.value u) w ∧ CV ρ I x u) : AStepD P o T H x H :=
  AStep.of_pure x ⟨rfl, rfl⟩ h

theorem AStepD.move {x : Operand} (ho : o.op = .move x) : AStepD P o T H (aev T x) H :=
  .of_pure fun ρ I w a _ ht => ⟨a.eval x, by simp [execOp, ho], aev_cv ht x⟩
theorem AStepD.assign {x : Operand} (ho : o.op = .assign x) : AStepD P o T H (aev T x) H :=
  .of_pure fun ρ I w a _ ht => ⟨a.eval x, by simp [execOp, ho], aev_cv ht x⟩

theorem cv_bool {ρ : Rho} {I : Imm} {b : Bool} {u : Value} (h : CV ρ I (.v (.bool b)) u) : u = .bool b := by cases h; rfl
theorem cv_v {ρ : Rho} {I : Imm} {x u : Value} (h : CV ρ I (.v x) u) : u = x := by cases h; rfl

theorem aev_eq {ρ : Rho} {I : Imm} {a : Act} (ht : TV ρ I T a) {x : Operand} {y : AV} (h : aev T x = y) : CV ρ I y (a.eval x) := h ▸ aev_cv ht x

/-- 'c && x', 'c || x': the second is looked at where the first leaves it open. -/
theorem AStepD.pick {c x y : Operand} (ho : o.op = .pick c x y) (b : Bool) (hc : aev T c = .v (.bool b)) (r : AV) (h1 : b = true → SubV (aev T x) r) (h2 : b = false → SubV (aev T y) r) : AStepD P o T H r H := by
  refine .of_pure fun ρ I w a _ ht => ?_
  have hb := cv_bool (aev_eq ht hc)
  refine ⟨if b then a.eval x else a.eval y, by cases b <;> simp [execOp, ho, hb, asBool], ?_⟩
  cases b with
  | true => exact h1 rfl _ _ _ (aev_cv ht x)
  | false => exact h2 rfl _ _ _ (aev_cv ht y)

theorem SubV.of_cond {g : Bool} {x : AV} (h : g = true) : SubV (.cond g x) x := fun _ _ _ hu => by cases hu with | cond hu _ => exact hu h

theorem AStepD.and {c x y : Operand} (ho : o.op = .pick c x y) (p q g : Bool) (hc : aev T c = .v (.bool p)) (hx : aev T x = .cond g (.v (.bool q))) (hg : p = true → g = true) (hy : aev T y = .v (.bool false)) :
    AStepD P o T H (.v (.bool (p && q))) H :=
  .pick ho p hc _ (fun h => by rw [hx, h]; exact .of_cond (hg h)) (fun h => by rw [hy, h]; exact .refl _)
theorem AStepD.and' {c x y : Operand} (ho : o.op = .pick c x y) (p q : Bool) (hc : aev T c = .v (.bool p)) (hx : aev T x = .v (.bool q)) (hy : aev T y = .v (.bool false)) :
    AStepD P o T H (.v (.bool (p && q))) H :=
  .pick ho p hc _ (fun h => by rw [hx, h]; exact .refl _) (fun h => by rw [hy, h]; exact .refl _)
theorem AStepD.or {c x y : Operand} (ho : o.op = .pick c x y) (p q g : Bool) (hc : aev T c = .v (.bool p)) (hx : aev T x = .v (.bool true)) (hy : aev T y = .cond g (.v (.bool q))) (hg : p = false → g = true) :
    AStepD P o T H (.v (.bool (p || q))) H :=
  .pick ho p hc _ (fun h => by rw [hx, h]; exact .refl _) (fun h => by rw [hy, h]; exact .of_cond (hg h))
theorem AStepD.or' {c x y : Operand} (ho : o.op = .pick c x y) (p q : Bool) (hc : aev T c = .v (.bool p)) (hx : aev T x = .v (.bool true)) (hy : aev T y = .v (.bool q)) :
    AStepD P o T H (.v (.bool (p || q))) H :=
  .pick ho p hc _ (fun h => by rw [hx, h]; exact .refl _) (fun h => by rw [hy, h]; exact .refl _)
theorem AStepD.pick_true {c x y : Operand} (ho : o.op = .pick c x y) (hc : aev T c = .v (.bool true)) : AStepD P o T H (aev T x) H :=
  .pick ho true hc _ (fun _ => .refl _) (fun h => by cases h)
theorem AStepD.pick_false {c x y : Operand} (ho : o.op = .pick c x y) (hc : aev T c = .v (.bool false)) : AStepD P o T H (aev T y) H :=
  .pick ho false hc _ (fun h => by cases h) (fun _ => .refl _)

/-! ### Cells -/

theorem add_none (b o j : Nat) : (⟨b, o, none⟩ : Addr).add j = ⟨b, o + j, none⟩ := by
  unfold Addr.add
  split
  · rename_i h; subst h; rfl
  · rfl

theorem cell_of {w : World} {b : Nat} {arr : Array Value} {t : TypeId} {fz : Nat × Nat} (h : w.heap[b]? = some (.cells arr t fz)) (o : Nat) : w.cell? ⟨b, o, none⟩ = arr[o]? := by
  simp [World.cell?, h]

/-- The value that cells make: one, or all as an aggregate. -/
def wrapA (agg : Bool) (cs : List AV) : AV := if agg then .agg cs else cs.headD .any

/-- Reading a variable of k cells. -/
theorem run_loadVar {t : TypeId} {i : TI} (hT : OkT P t i) {w : World} {b off : Nat} {vs : List Value} (hl : vs.length = i.size) (h1 : i.agg = false → i.size = 1)
    (hc : ∀ (j : Nat) u, vs[j]? = some u → w.cell? ⟨b, off + j, none⟩ = some u) : (loadVar t ⟨b, off, none⟩).run P w = .ok (if i.agg then .agg vs.toArray else vs.headD undef) w := by
  unfold loadVar
  rw [Sem.run_bind, hT.run_agg w]
  simp only [Result.andThen]
  cases ha : i.agg with
  | true =>
    simp only [if_true, Sem.run_bind, hT.run_size w, Result.andThen, ← hl]
    rw [run_loadCells_list (P := P) w ⟨b, off, none⟩ vs (fun j v hv => by rw [add_none]; exact hc j v hv)]
    simp
  | false =>
    have h := h1 ha
    rw [h] at hl
    obtain ⟨u, rfl⟩ := List.length_eq_one_iff.1 hl
    have := hc 0 u rfl
    simp only [Nat.add_zero] at this
    simp [this]

theorem cv_wrap {ρ : Rho} {I : Imm} {agg : Bool} {cs : List AV} {vs : List Value} (hl : vs.length = cs.length) (hv : ∀ (i : Nat) a u, cs[i]? = some a → vs[i]? = some u → CV ρ I a u) (h1 : agg = false → cs.length = 1) :
    CV ρ I (wrapA agg cs) (if agg then .agg vs.toArray else vs.headD undef) := by
  cases agg with
  | true => exact .agg hl hv
  | false =>
    have h := h1 rfl
    rw [h] at hl
    obtain ⟨u, rfl⟩ := List.length_eq_one_iff.1 hl
    obtain ⟨x, rfl⟩ := List.length_eq_one_iff.1 h
    exact hv 0 x u rfl rfl

/-- The cells of a location: a stretch of them, in the world. -/
theorem obj_stretch {ρ : Rho} {I : Imm} {w : World} {B : Blk} {ty : TypeId} {cs : List AV} (h : ObjAt ρ I w B (.cells ty cs)) {off k : Nat} (hk : off + k ≤ cs.length) :
    ∃ vs : List Value, vs.length = k ∧ (∀ (j : Nat) u, vs[j]? = some u → w.cell? ⟨B.b, off + j, none⟩ = some u) ∧ ∀ (j : Nat) a u, ((cs.drop off).take k)[j]? = some a → vs[j]? = some u → CV ρ I a u := by
  obtain ⟨arr, h1, h2, h3, h4⟩ := h
  refine ⟨(arr.toList.drop off).take k, by simp; omega, fun j u hu => ?_, fun j a u ha hu => ?_⟩
  · rw [cell_of h1]
    rw [List.getElem?_take] at hu
    split at hu
    · rw [List.getElem?_drop] at hu; simpa using hu
    · cases hu
  · rw [List.getElem?_take] at hu ha
    split at hu
    · rename_i hj
      rw [if_pos hj] at ha
      rw [List.getElem?_drop] at hu ha
      exact h4 _ a u ha (by simpa using hu)
    · cases hu

variable {TT : Nat → TI} (hT : TOk P TT)

include hT in
theorem AStepD.load_ptr {t : TypeId} {x : Operand} {l off : Nat} {ty : TypeId} {cs : List AV} (ho : o.op = .load t x) (hx : aev T x = .ptr l off) (hok : (TT t).ok = true) (hH : H.get l = some (.cells ty cs))
    (hk : off + (TT t).size ≤ cs.length) (h1 : (TT t).agg = false → (TT t).size = 1) : AStepD P o T H (wrapA (TT t).agg ((cs.drop off).take (TT t).size)) H := by
  refine .of_pure fun ρ I w a hc ht => ?_
  have hv := aev_eq ht hx
  obtain ⟨B, hB, _, hat⟩ := hc.obj l _ hH
  obtain ⟨vs, hl, hcell, hcv⟩ := obj_stretch hat hk
  have he : a.eval x = .pointer (some ⟨B.b, off, none⟩) := by
    generalize a.eval x = u at hv
    cases hv with | ptr h => rw [hB] at h; cases h; rfl
  refine ⟨_, ?_, cv_wrap (by simp [hl]; omega) hcv (by intro e; have := h1 e; simp; omega)⟩
  simp only [execOp, ho, Instr.loadAt, Instr.sureAddr, he, Sem.run_bind, Sem.run_pure, Result.andThen]
  rw [run_loadVar (hT t hok) hl h1 hcell]

include hT in
theorem AStepD.load_ip {t : TypeId} {x : Operand} {cs : List AV} (ho : o.op = .load t x) (hx : aev T x = .ip cs) (hok : (TT t).ok = true)
    (hk : (TT t).size ≤ cs.length) (h1 : (TT t).agg = false → (TT t).size = 1) : AStepD P o T H (wrapA (TT t).agg (cs.take (TT t).size)) H := by
  refine .of_pure fun ρ I w a hc ht => ?_
  have hv := aev_eq ht hx
  generalize he : a.eval x = u at hv
  cases hv with
  | @ip _ b off arr vs h hl hcc hvv =>
    obtain ⟨ty, fz, hb⟩ := hc.imm b arr h
    refine ⟨_, ?_, cv_wrap (vs := vs.take (TT t).size) (by simp [hl]) (fun j a u ha hu => ?_) (by intro e; have := h1 e; simp; omega)⟩
    · simp only [execOp, ho, Instr.loadAt, Instr.sureAddr, he, Sem.run_bind, Sem.run_pure, Result.andThen]
      rw [run_loadVar (hT t hok) (vs := vs.take (TT t).size) (by simp; omega) h1 (fun j u hu => ?_)]
      rw [cell_of hb]
      rw [List.getElem?_take] at hu
      split at hu
      · exact hcc j u hu
      · cases hu
    · rw [List.getElem?_take] at hu ha
      split at hu
      · rename_i hj; rw [if_pos hj] at ha; exact hvv j a u ha hu
      · cases hu

/-! ### Stores -/

/-- A value that fits into one cell, whatever concrete value it stands for. -/
def AV.one : AV → Bool
  | .v x => x.oneCell'
  | .ptr .. | .ip _ | .sl .. | .slc .. | .slx .. | .vec .. | .map _ | .func .. | .iface .. => true
  | _ => false

theorem one_cell {ρ : Rho} {I : Imm} {a : AV} {u : Value} (h : CV ρ I a u) (h1 : a.one = true) : u.oneCell' = true := by
  cases h <;> first | rfl | exact h1 | (simp [AV.one] at h1)

/-- The cells of a value. -/
def AV.cells : AV → List AV
  | .agg cs => cs
  | x => [x]

theorem cells_cv {ρ : Rho} {I : Imm} {a : AV} {u : Value} (h : CV ρ I a u) (h1 : ∀ x ∈ a.cells, x.one = true) : u.cells.toList.length = a.cells.length ∧ (∀ (i : Nat) x y, a.cells[i]? = some x → u.cells.toList[i]? = some y → CV ρ I x y) ∧ ∀ y ∈ u.cells.toList, y.oneCell' = true := by
  by_cases hg : ∃ cs, a = .agg cs
  · obtain ⟨cs, rfl⟩ := hg
    cases h with
    | @agg _ vs hl hv =>
      refine ⟨by simpa [AV.cells, Value.cells] using hl, by simpa [AV.cells, Value.cells] using hv, ?_⟩
      intro y hy
      simp only [Value.cells] at hy
      obtain ⟨i, hi⟩ := List.mem_iff_getElem?.1 hy
      have hlt : i < cs.length := by rw [← hl]; exact (List.getElem?_eq_some_iff.1 hi).1
      exact one_cell (hv i cs[i] y (by simp [hlt]) hi) (h1 _ (by simp [AV.cells]))
  · have hc : a.cells = [a] := by cases a <;> first | rfl | exact (hg ⟨_, rfl⟩).elim
    have ho := one_cell h (h1 a (by simp [hc]))
    have hu : u.cells = #[u] := by cases u <;> first | rfl | (simp [Value.oneCell'] at ho)
    rw [hc, hu]
    refine ⟨rfl, fun i x y hx hy => ?_, fun y hy => by simp at hy; subst hy; exact ho⟩
    match i with
    | 0 => simp at hx hy; subst hx; subst hy; exact h
    | i + 1 => simp at hx

/-- Cells with a stretch written over. -/
def over (cs : List AV) (off : Nat) (xs : List AV) : List AV := cs.take off ++ xs ++ cs.drop (off + xs.length)

theorem over_length {cs : List AV} {off : Nat} {xs : List AV} (h : off + xs.length ≤ cs.length) : (over cs off xs).length = cs.length := by
  simp [over]; omega

/-- A stretch of a location's block written over: the abstract cells follow. -/
theorem Conc.over {ρ : Rho} {I : Imm} {w : World} (hc : Conc ρ I w H) {l off : Nat} {ty : TypeId} {cs xs : List AV} {us : List Value} (hH : H.get l = some (.cells ty cs)) (hlen : us.length = xs.length)
    (hv : ∀ (i : Nat) x u, xs[i]? = some x → us[i]? = some u → CV ρ I x u) (hk : off + xs.length ≤ cs.length) :
    ∃ B arr, ρ l = some B ∧ w.heap[B.b]? = some (.cells arr ty (0, 0)) ∧ off + us.length ≤ arr.size ∧
      Conc ρ I (w.setRow B.b (arr.toList.take off ++ us ++ arr.toList.drop (off + us.length)).toArray) (H.set l (.cells ty (Ax.over cs off xs))) ∧
      Ev ρ I w H ρ I (w.setRow B.b (arr.toList.take off ++ us ++ arr.toList.drop (off + us.length)).toArray) (H.set l (.cells ty (Ax.over cs off xs))) := by
  obtain ⟨B, hB, _, arr, h1, h2, h3, h4⟩ := hc.obj l _ hH
  refine ⟨B, arr, hB, h1, by omega, ?_⟩
  refine hc.set hH hB (by simp) (fun k hk => setRow_other w B.b k _ hk) ?_ rfl rfl rfl
  refine ⟨_, setRow_heap w B.b arr _ ty (0, 0) h1, by simp; omega, by rw [over_length hk]; simp; omega, fun i a u ha hu => ?_⟩
  simp only [Ax.over, List.append_assoc, List.getElem?_toArray] at ha hu
  by_cases hi : i < off
  · rw [List.getElem?_append_left (by simp; omega), List.getElem?_take, if_pos hi] at ha hu
    exact h4 i a u ha (by simpa using hu)
  · rw [List.getElem?_append_right (by simp; omega)] at ha hu
    simp only [List.length_take, Array.length_toList] at ha hu
    rw [show min off cs.length = off by omega] at ha
    rw [show min off arr.size = off by omega] at hu
    by_cases hj : i - off < xs.length
    · rw [List.getElem?_append_left hj] at ha
      rw [List.getElem?_append_left (by omega)] at hu
      exact hv _ a u ha hu
    · rw [List.getElem?_append_right (by omega)] at ha
      rw [List.getElem?_append_right (by omega)] at hu
      rw [List.getElem?_drop] at ha hu
      refine h4 i a u ?_ ?_
      · rw [← ha]; congr 1; omega
      · rw [Array.getElem?_toList, hlen] at hu; rw [← hu]; congr 1; omega

include hT in
theorem AStepD.store {t : TypeId} {x y : Operand} {l off : Nat} {ty : TypeId} {cs xs : List AV} (ho : o.op = .store t x y) (hx : aev T x = .ptr l off) (hok : (TT t).ok = true) (hH : H.get l = some (.cells ty cs))
    (hy : (aev T y).cells = xs) (hone : ∀ x ∈ xs, x.one = true) (hs : xs.length = (TT t).size) (hk : off + xs.length ≤ cs.length) : AStepD P o T H .any (H.set l (.cells ty (over cs off xs))) := by
  refine AStep.of_skip fun ρ I w a hc ht => ?_
  have hv := aev_eq ht hx
  obtain ⟨hl, hcv, h1⟩ := cells_cv (aev_cv ht y) (by rw [hy]; exact hone)
  rw [hy] at hl hcv
  obtain ⟨B, arr, hB, hb, hfit, hc', ev⟩ := hc.over hH hl hcv hk
  have he : a.eval x = .pointer (some ⟨B.b, off, none⟩) := by
    generalize a.eval x = u at hv
    cases hv with | ptr h => rw [hB] at h; cases h; rfl
  refine ⟨_, ρ, I, _, ?_, ⟨rfl, rfl⟩, hc', ev⟩
  simp only [execOp, ho, Instr.storeAt, Instr.sureAddr, he, Sem.run_bind, Sem.run_pure, Result.andThen, storeVar, (hT t hok).run_size w]
  rw [if_neg (by simp at hl ⊢; omega)]
  have := run_storeCells_at P B.b off ty (a.eval y).cells.toList 0 arr w hb (by simpa using hfit) h1
  simp only [Nat.add_zero] at this
  rw [this]

/-! ### New variables -/

/-- A new block that holds these cells. -/
theorem Conc.alloc {ρ : Rho} {I : Imm} {w : World} (hc : Conc ρ I w H) {ty : TypeId} {cs : List AV} {arr : Array Value} (hl : cs.length ≤ arr.size)
    (hv : ∀ (i : Nat) x u, cs[i]? = some x → arr[i]? = some u → CV ρ I x u) :
    Conc (ρ.new H.next ⟨w.heap.size, arr.size⟩) I (w.alloc (.cells arr ty)) (H.new (.cells ty cs)) ∧ Ev ρ I w H (ρ.new H.next ⟨w.heap.size, arr.size⟩) I (w.alloc (.cells arr ty)) (H.new (.cells ty cs)) := by
  refine hc.new arr.size (by simp) (fun k hk => RowKit.Below.heap_alloc w _ k hk) ⟨arr, heap_alloc_new w _, rfl, hl, fun i x u hx hu => ?_⟩ rfl rfl rfl
  refine (hv i x u hx hu).mono (fun l B h => ?_) (fun _ _ h => h)
  have := hc.dom l B h
  unfold Rho.new
  rw [if_neg (by omega)]
  exact h

theorem new_cv {ρ : Rho} {I : Imm} (l : Nat) (B : Blk) (off : Nat) : CV (ρ.new l B) I (.ptr l off) (.pointer (some ⟨B.b, off, none⟩)) := .ptr (by simp [Rho.new])

theorem AStepD.box {t : TypeId} {x : Operand} {cs : List AV} (ho : o.op = .box t x) (hx : (aev T x).cells = cs) (hone : ∀ x ∈ cs, x.one = true) : AStepD P o T H (.ptr H.next 0) (H.new (.cells t cs)) := by
  refine AStep.of_run fun ρ I w a hc ht => ?_
  obtain ⟨hl, hcv, h1⟩ := cells_cv (aev_cv ht x) (by rw [hx]; exact hone)
  rw [hx] at hl hcv
  obtain ⟨hc', ev⟩ := hc.alloc (ty := t) (cs := cs) (arr := (a.eval x).cells) (by simp at hl; omega) (fun i x u hx hu => hcv i x u hx (by simpa using hu))
  refine ⟨_, _, _, _, _, _, ?_, ⟨rfl, rfl⟩, new_cv H.next _ 0, hc', ev⟩
  simp [execOp, ho, Instr.box, newVar, newRow, newObj, Sem.run]

/-- A value that is known to the last cell. -/
def AV.ofV (x : Value) : List AV := x.cells.toList.map .v

include hT in
theorem AStepD.alloc {t : TypeId} (ho : o.op = .alloc t) (hok : (TT t).ok = true) : AStepD P o T H (.ptr H.next 0) (H.new (.cells t (AV.ofV (TT t).zero))) := by
  refine AStep.of_run fun ρ I w a hc ht => ?_
  obtain ⟨hc', ev⟩ := hc.alloc (ty := t) (cs := AV.ofV (TT t).zero) (arr := (TT t).zero.cells) (by simp [AV.ofV]) (fun i x u hx hu => by
    simp only [AV.ofV, List.getElem?_map, Array.getElem?_toList, hu, Option.map_some, Option.some.injEq] at hx
    subst hx
    exact .v u)
  refine ⟨_, _, _, _, _, _, ?_, ⟨rfl, rfl⟩, new_cv H.next _ 0, hc', ev⟩
  simp [execOp, ho, Instr.alloc, (hT t hok).run_zero w, newVar, newRow, newObj, Sem.run]

theorem AStepD.nilCheck {x : Operand} (ho : o.op = .nilCheck x) (hx : (∃ l off, aev T x = .ptr l off) ∨ (∃ cs, aev T x = .ip cs) ∨ (∃ f cs, aev T x = .func (.func f) cs)) : AStepD P o T H (aev T x) H := by
  refine .of_pure fun ρ I w a _ ht => ⟨a.eval x, ?_, aev_cv ht x⟩
  have hv := aev_cv ht x
  generalize he : a.eval x = u at hv
  rcases hx with ⟨l, off, hx⟩ | ⟨cs, hx⟩ | ⟨f, cs, hx⟩ <;> (rw [hx] at hv; cases hv; simp [execOp, ho, he])

theorem run_fieldPlace {s : TypeId} {i : TI} (hi : OkT P s i) {w : World} (b off : Nat) (f : Field) (hf : f.type = s) (h0 : i.size ≠ 0) : (fieldPlace ⟨b, off, none⟩ f).run P w = .ok ⟨b, off + f.offset, none⟩ w := by
  subst hf
  simp [fieldPlace, hi.run_size w, h0, add_none]

include hT in
theorem AStepD.fieldAddr {s : TypeId} {x : Operand} {k l off : Nat} {fs : Array Field} {f : Field} (ho : o.op = .fieldAddr s x k) (hx : aev T x = .ptr l off) (hok : (TT s).ok = true) (hs : (TT s).und = .struct fs) (hf : fs[k]? = some f)
    (hokf : (TT f.type).ok = true) (h0 : (TT f.type).size ≠ 0) : AStepD P o T H (.ptr l (off + f.offset)) H := by
  refine .of_pure fun ρ I w a _ ht => ?_
  have hv := aev_eq ht hx
  generalize he : a.eval x = u at hv
  cases hv with
  | @ptr _ _ B h =>
    refine ⟨_, ?_, .ptr h⟩
    simp [execOp, ho, Instr.fieldAt, (hT s hok).run_und w, hs, hf, Instr.sureAddr, he, run_fieldPlace (hT _ hokf) _ _ f rfl h0]

include hT in
theorem AStepD.fieldAddr_ip {s : TypeId} {x : Operand} {k : Nat} {cs : List AV} {fs : Array Field} {f : Field} (ho : o.op = .fieldAddr s x k) (hx : aev T x = .ip cs) (hok : (TT s).ok = true) (hs : (TT s).und = .struct fs) (hf : fs[k]? = some f)
    (hokf : (TT f.type).ok = true) (h0 : (TT f.type).size ≠ 0) : AStepD P o T H (.ip (cs.drop f.offset)) H := by
  refine .of_pure fun ρ I w a _ ht => ?_
  have hv := aev_eq ht hx
  generalize he : a.eval x = u at hv
  cases hv with
  | @ip _ b off arr vs h hl hcc hvv =>
    refine ⟨_, ?_, .ip (vs := vs.drop f.offset) h (by simp [hl]) (off := off + f.offset) (fun i u hu => ?_) (fun i a u ha hu => ?_)⟩
    · simp [execOp, ho, Instr.fieldAt, (hT s hok).run_und w, hs, hf, Instr.sureAddr, he, run_fieldPlace (hT _ hokf) _ _ f rfl h0]
    · rw [List.getElem?_drop] at hu; rw [Nat.add_assoc]; exact hcc _ u hu
    · rw [List.getElem?_drop] at hu ha; exact hvv _ a u ha hu

/-- A part of an aggregate. -/
theorem run_part {t : TypeId} {i : TI} (hi : OkT P t i) {w : World} {vs : List Value} {off : Nat} (hk : off + i.size ≤ vs.length) (h1 : i.agg = false → i.size = 1) :
    (part t vs.toArray off).run P w = .ok (if i.agg then .agg ((vs.drop off).take i.size).toArray else ((vs.drop off).take i.size).headD undef) w := by
  unfold part
  rw [Sem.run_bind, hi.run_agg w]
  simp only [Result.andThen]
  cases ha : i.agg with
  | true =>
    simp only [if_true, Sem.run_bind, hi.run_size w, Result.andThen]
    simp [List.extract_toArray, List.extract_eq_take_drop]
  | false =>
    have h := h1 ha
    have hlt : off < vs.length := by omega
    simp [h, hlt, List.take_one, List.head?_drop]

include hT in
theorem AStepD.field {s : TypeId} {x : Operand} {k : Nat} {cs : List AV} {fs : Array Field} {f : Field} (ho : o.op = .field s x k) (hx : aev T x = .agg cs) (hok : (TT s).ok = true) (hs : (TT s).und = .struct fs) (hf : fs[k]? = some f)
    (hokf : (TT f.type).ok = true) (hk : f.offset + (TT f.type).size ≤ cs.length) (h1 : (TT f.type).agg = false → (TT f.type).size = 1) : AStepD P o T H (wrapA (TT f.type).agg ((cs.drop f.offset).take (TT f.type).size)) H := by
  refine .of_pure fun ρ I w a _ ht => ?_
  have hv := aev_eq ht hx
  generalize he : a.eval x = u at hv
  cases hv with
  | @agg _ vs hl hvv =>
    refine ⟨_, ?_, cv_wrap (vs := (vs.drop f.offset).take (TT f.type).size) (by simp; omega) (fun i a u ha hu => ?_) (by intro e; have := h1 e; simp; omega)⟩
    · simp only [execOp, ho, Instr.field, Sem.run_bind, (hT s hok).run_und w, hs, Result.andThen, hf, asAgg, he, Sem.run_pure]
      rw [run_part (hT _ hokf) (by omega) h1]
    · rw [List.getElem?_take] at hu ha
      split at hu
      · rename_i hj; rw [if_pos hj] at ha
        rw [List.getElem?_drop] at hu ha
        exact hvv _ a u ha hu
      · cases hu

theorem AStepD.extract {x : Operand} {k : Nat} {cs : List AV} {y : AV} (ho : o.op = .extract x k) (hx : aev T x = .tup cs) (hk : cs[k]? = some y) : AStepD P o T H y H := by
  refine .of_pure fun ρ I w a _ ht => ?_
  have hv := aev_eq ht hx
  generalize he : a.eval x = u at hv
  cases hv with
  | @tup _ vs hl hvv =>
    have hlt : k < vs.length := by rw [hl]; exact (List.getElem?_eq_some_iff.1 hk).1
    refine ⟨vs[k], ?_, hvv k y _ hk (by simp [hlt])⟩
    simp [execOp, ho, Instr.extract, he, hlt]
end
end Go.Ax
