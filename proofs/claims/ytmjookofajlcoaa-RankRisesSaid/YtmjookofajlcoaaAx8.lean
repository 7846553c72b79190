/- The abstract layer, part 8: append, literals, closures, calls, the begin and the end of a function, freezing. -/
import Derived.Test.YtmjookofajlcoaaAx7
namespace Go.Ax

section
variable {P : Program} {o : Oper} {T : Fr} {H : AHeap} {TT : Nat → TI} (hT : TOk P TT)

theorem getElem?_appendA {α : Type} {a b : List α} {i : Nat} {x : α} (h : (a ++ b)[i]? = some x) : (i < a.length ∧ a[i]? = some x) ∨ (a.length ≤ i ∧ b[i - a.length]? = some x) := by
  by_cases hi : i < a.length
  · rw [List.getElem?_append_left hi] at h; exact .inl ⟨hi, h⟩
  · rw [List.getElem?_append_right (by omega)] at h; exact .inr ⟨by omega, h⟩

/-- Two stretches, one behind the other. -/
theorem cv_append {ρ : Rho} {I : Imm} {cs ys : List AV} {us vs : List Value} (h1 : us.length = cs.length) (hv1 : ∀ (i : Nat) a v, cs[i]? = some a → us[i]? = some v → CV ρ I a v) (hv2 : ∀ (i : Nat) a v, ys[i]? = some a → vs[i]? = some v → CV ρ I a v) :
    ∀ (i : Nat) a v, (cs ++ ys)[i]? = some a → (us ++ vs)[i]? = some v → CV ρ I a v := by
  intro i a v ha hv
  rcases getElem?_appendA ha with ⟨hi, ha⟩ | ⟨hi, ha⟩
  · rw [List.getElem?_append_left (by omega)] at hv; exact hv1 i a v ha hv
  · rw [List.getElem?_append_right (by omega), h1] at hv; exact hv2 _ a v ha hv

include hT in
/-- append to a slice whose last element is its location's last cell. -/
theorem AStepD.append {t t2 e : TypeId} {x y : Operand} {l len n k : Nat} {ys cs : List AV} {ty : TypeId} (ho : o.op = .call { callee := .builtin .append, args := #[x, y], argTypes := #[t, t2] }) (hx : aev T x = .sl l 0 len k) (hH : H.get l = some (.cells ty cs)) (hcs : cs.length = len * k)
    (hsrc : Src H k (aev T y) n ys) (hys : ys.length = n * k) (hone : ∀ z ∈ ys, z.one = true)
    (hok : (TT t).ok = true) (hoke : (TT e).ok = true) (hok2 : (TT t2).ok = true) (hu : (TT t).und = .slice e) (hu2 : (TT t2).und = .slice e) (hk : (TT e).size = k) (hte : ty = e) (hb : (len + n) * (TT e).bytes ≤ 140737488355328) (hm : len + n ≤ 9223372036854775807) :
    AStepD P o T H (.sl H.next 0 (len + n) k) ((H.new (.cells e (cs ++ ys))).del l) := by
  subst hk; subst hte
  refine AStep.of_run fun ρ I w a hc ht => ?_
  have hv := aev_eq ht hx
  obtain ⟨hlen, _, news, hnl, hnews, hncv⟩ := hsrc.read (P := P) hc hys (aev_cv ht y)
  have hlt := AHeap.get_lt hc hH
  generalize he : a.eval x = u at hv
  cases hv with
  | @sl _ _ _ _ c B hB hlc hmc hsz =>
    obtain ⟨B', hB', hIB, arr, harr, hasz, hcl, hacv⟩ := hc.obj l _ hH
    rw [hB] at hB'; cases hB'
    simp only [Nat.zero_add] at hsz
    have holds : ∀ w', w'.heap = w.heap → (Builtin.firstCells (TT ty).size len (.slice (some ⟨B.b, 0, none⟩) len c)).run P w' = .ok (arr.toList.take (len * (TT ty).size)).toArray w' := by
      intro w' hw'
      refine run_firstCells_some (P := P) w' _ _ _ _ _ _ (by simp; omega) (fun j v hv => ?_)
      rw [add_none, cell_of (by rw [hw']; exact harr)]
      rw [List.getElem?_take] at hv
      split at hv
      · simpa using hv
      · cases hv
    have hone' : ∀ v ∈ news, v.oneCell' = true := by
      intro v hv
      obtain ⟨i, hi⟩ := List.mem_iff_getElem?.1 hv
      have hil : i < ys.length := by rw [← hnl]; exact (List.getElem?_eq_some_iff.1 hi).1
      exact one_cell (hncv i ys[i] v (by simp [hil]) hi) (hone _ (List.getElem_mem hil))
    have hrun := run_append hT (ty := o.type) hok hoke hok2 hu ⟨_, .inl hu2⟩ hlen hnews holds hb hm
    by_cases hroom : len + n ≤ c
    · rw [if_pos hroom] at hrun
      have hmul : (len + n) * (TT ty).size ≤ c * (TT ty).size := Nat.mul_le_mul_right _ hroom
      have hmul2 : (len + n) * (TT ty).size = len * (TT ty).size + n * (TT ty).size := Nat.add_mul _ _ _
      have hst := run_storeCells_at P B.b (len * (TT ty).size) ty news 0 arr w harr (by simp; omega) hone'
      simp only [Nat.add_zero] at hst
      simp only [add_none, Nat.zero_add, hst, Result.andThen] at hrun
      obtain ⟨hc1, ev1⟩ := hc.set (o' := .cells ty (cs ++ ys)) hH hB (w' := w.setRow B.b (arr.toList.take (len * (TT ty).size) ++ news ++ arr.toList.drop (len * (TT ty).size + news.length)).toArray) (by simp) (fun k hk => setRow_other w B.b k _ hk)
        ⟨_, setRow_heap w B.b arr _ ty (0, 0) harr, by simp; omega, by simp; omega, by
          intro i z v hz hv
          simp only [List.append_assoc, List.getElem?_toArray] at hv
          rcases getElem?_appendA hz with ⟨hi, hz⟩ | ⟨hi, hz⟩
          · rw [List.getElem?_append_left (by simp; omega), List.getElem?_take, if_pos (by omega)] at hv
            exact hacv i z v hz (by simpa using hv)
          · have hil := (List.getElem?_eq_some_iff.1 hz).1
            rw [List.getElem?_append_right (by simp; omega), List.getElem?_append_left (by simp; omega)] at hv
            simp only [List.length_take, Array.length_toList, show min (len * (TT ty).size) arr.size = cs.length by omega] at hv
            exact hncv _ z v hz hv⟩ rfl rfl rfl
      obtain ⟨hc2, ev2⟩ := hc1.rename (l := l) (o := .cells ty (cs ++ ys)) (B := B) (AHeap.get_set_same _ _ _) hB
      have hHe : ((H.set l (.cells ty (cs ++ ys))).new (.cells ty (cs ++ ys))).del l = (H.new (.cells ty (cs ++ ys))).del l := by
        simp only [AHeap.del, AHeap.new, AHeap.set, AHeap.mk.injEq, and_true]
        funext k
        by_cases e : k = l <;> simp [e]
      rw [hHe] at hc2 ev2
      refine ⟨.slice (some ⟨B.b, 0, none⟩) (len + n) c, _, _, _, _, _, run_builtin ho a w ?_, ⟨rfl, rfl⟩, ?_, hc2, ev1.trans ev2⟩
      · rw [show (#[x, y] : Array Operand).map a.eval = #[a.eval x, a.eval y] from by simp, he]
        simp only [builtin, Sem.run_bind, hrun, Result.andThen, Sem.run_pure]
      · exact .sl (by simp [Rho.new, AHeap.set]) (by omega) hmc (by omega)
    · rw [if_neg hroom] at hrun
      have hge := grownCap_ge w (len + n) c ty
      have hle := grownCap_le_maxLen w (len + n) c ty (by unfold maxLen; omega)
      obtain ⟨hc1, ev1⟩ := hc.drew.alloc (ty := ty) (cs := cs ++ ys) (arr := (arr.toList.take (len * (TT ty).size)).toArray ++ news.toArray ++ Builtin.zeroCells (TT ty).zero.cells (grownCap w (len + n) c ty - (len + n))) (by simp; omega) (by
        intro i z v hz hv
        have : ((arr.toList.take (len * (TT ty).size)).toArray ++ news.toArray ++ Builtin.zeroCells (TT ty).zero.cells (grownCap w (len + n) c ty - (len + n)))[i]? = (arr.toList.take (len * (TT ty).size) ++ news)[i]? := by
          have hil := (List.getElem?_eq_some_iff.1 hz).1
          rw [Array.getElem?_append_left (by simp at hil ⊢; omega)]
          simp
        rw [this] at hv
        refine cv_append (us := arr.toList.take (len * (TT ty).size)) (by simp; omega) (fun i z v hz hv => ?_) hncv i z v hz hv
        rw [List.getElem?_take] at hv
        split at hv
        · exact hacv i z v hz (by simpa using hv)
        · cases hv)
      have hs := SubH.del (H.new (.cells ty (cs ++ ys))) l
      refine ⟨.slice (some ⟨w.heap.size, 0, none⟩) (len + n) (grownCap w (len + n) c ty), _, _, _, _, _, run_builtin ho a w ?_, ⟨rfl, rfl⟩, ?_, hc1.sub hs, ((Ev.drew ρ I w H).trans ev1).trans (Ev.sub hs)⟩
      · rw [show (#[x, y] : Array Operand).map a.eval = #[a.eval x, a.eval y] from by simp, he]
        simp only [builtin, Sem.run_bind, hrun, Result.andThen, Sem.run_pure]
      · refine .sl (B := ⟨w.heap.size, _⟩) (by simp [Rho.new]; rfl) (by omega) hle ?_
        have := (hT ty hoke).zs
        have e1 : (grownCap w (len + n) c ty - (len + n)) * (TT ty).size + (len + n) * (TT ty).size = grownCap w (len + n) c ty * (TT ty).size := by rw [← Nat.add_mul]; congr 1; omega
        have e2 : (len + n) * (TT ty).size = len * (TT ty).size + n * (TT ty).size := Nat.add_mul _ _ _
        simp [size_zeroCells, this]
        omega

include hT in
/-- append to nil. -/
theorem AStepD.append_nil {t t2 e : TypeId} {x y : Operand} {n k : Nat} {ys : List AV} (ho : o.op = .call { callee := .builtin .append, args := #[x, y], argTypes := #[t, t2] }) (hx : aev T x = .v (.slice none 0 0))
    (hsrc : Src H k (aev T y) n ys) (hys : ys.length = n * k) (hn : 0 < n)
    (hok : (TT t).ok = true) (hoke : (TT e).ok = true) (hok2 : (TT t2).ok = true) (hu : (TT t).und = .slice e) (hu2 : (TT t2).und = .slice e) (hk : (TT e).size = k) (hb : n * (TT e).bytes ≤ 140737488355328) (hm : n ≤ 9223372036854775807) :
    AStepD P o T H (.sl H.next 0 n k) (H.new (.cells e ys)) := by
  subst hk
  refine AStep.of_run fun ρ I w a hc ht => ?_
  have he := cv_v (aev_eq ht hx)
  obtain ⟨hlen, _, news, hnl, hnews, hncv⟩ := hsrc.read (P := P) hc hys (aev_cv ht y)
  have hrun := run_append hT (ty := o.type) (base := none) (sLen := 0) (sCap := 0) (olds := #[]) hok hoke hok2 hu ⟨_, .inl hu2⟩ hlen hnews (fun w' _ => by simp [Builtin.firstCells]) (by simpa using hb) (by omega)
  rw [if_neg (by omega)] at hrun
  have hge := grownCap_ge w (0 + n) 0 e
  have hle := grownCap_le_maxLen w (0 + n) 0 e (by unfold maxLen; omega)
  obtain ⟨hc1, ev1⟩ := hc.drew.alloc (ty := e) (cs := ys) (arr := #[] ++ news.toArray ++ Builtin.zeroCells (TT e).zero.cells (grownCap w (0 + n) 0 e - (0 + n))) (by simp; omega) (by
    intro i z v hz hv
    have hil := (List.getElem?_eq_some_iff.1 hz).1
    rw [Array.getElem?_append_left (by simp; omega)] at hv
    exact hncv i z v hz (by simpa using hv))
  refine ⟨.slice (some ⟨w.heap.size, 0, none⟩) (0 + n) (grownCap w (0 + n) 0 e), _, _, _, _, _, run_builtin ho a w ?_, ⟨rfl, rfl⟩, ?_, hc1, (Ev.drew ρ I w H).trans ev1⟩
  · rw [show (#[x, y] : Array Operand).map a.eval = #[a.eval x, a.eval y] from by simp, he]
    simp only [builtin, Sem.run_bind, hrun, Result.andThen, Sem.run_pure]
  · rw [Nat.zero_add] at hge hle ⊢
    refine .sl (B := ⟨w.heap.size, _⟩) (by simp [Rho.new]; rfl) (by omega) hle ?_
    have := (hT e hoke).zs
    have e1 : (grownCap w n 0 e - n) * (TT e).size + n * (TT e).size = grownCap w n 0 e * (TT e).size := by rw [← Nat.add_mul]; congr 1; omega
    simp [size_zeroCells, this]
    omega

include hT in
theorem AStepD.append_nil_none {t t2 e : TypeId} {x y : Operand} {k : Nat} (ho : o.op = .call { callee := .builtin .append, args := #[x, y], argTypes := #[t, t2] }) (hx : aev T x = .v (.slice none 0 0))
    (hsrc : Src H k (aev T y) 0 []) (hok : (TT t).ok = true) (hoke : (TT e).ok = true) (hok2 : (TT t2).ok = true) (hu : (TT t).und = .slice e) (hu2 : (TT t2).und = .slice e) (hk : (TT e).size = k) :
    AStepD P o T H (.v (.slice none 0 0)) H := by
  subst hk
  refine AStepD.of_pure fun ρ I w a hc ht => ⟨_, run_builtin ho a w ?_, .v _⟩
  have he := cv_v (aev_eq ht hx)
  obtain ⟨hlen, _, news, hnl, hnews, hncv⟩ := hsrc.read (P := P) hc (by simp) (aev_cv ht y)
  have hrun := run_append hT (ty := o.type) (base := none) (sLen := 0) (sCap := 0) (olds := #[]) hok hoke hok2 hu ⟨_, .inl hu2⟩ hlen hnews (fun w' _ => by simp [Builtin.firstCells]) (by simp) (by omega)
  rw [show (#[x, y] : Array Operand).map a.eval = #[a.eval x, a.eval y] from by simp, he]
  simp only [builtin, Sem.run_bind, hrun, Result.andThen, Sem.run_pure]
  simp

/-! ### Literals -/

/-- Parts laid over cells. -/
def afill (place : Nat → Option (Nat × Nat)) (cells : List AV) : List (Nat × AV) → Option (List AV)
  | [] => some cells
  | (i, x) :: rest =>
    match place i with
    | none => none
    | some (off, size) => if x.cells.length = size ∧ off + size ≤ cells.length then afill place (over cells off x.cells) rest else none

theorem setFold (vs : List Value) : ∀ (off : Nat) (k : Nat) (cs : Array Value), off + k + vs.length ≤ cs.size →
    ((vs.zipIdx k).foldl (fun cs p => cs.setIfInBounds (off + p.2) p.1) cs).toList = cs.toList.take (off + k) ++ vs ++ cs.toList.drop (off + k + vs.length) := by
  induction vs with
  | nil => intro off k cs _; simp
  | cons v r ih =>
    intro off k cs h
    simp only [List.zipIdx_cons, List.foldl_cons]
    rw [ih off (k + 1) _ (by simp at h ⊢; omega)]
    simp only [List.length_cons] at h
    have e := list_seg_step cs.toList (off + k) v r (by simp; omega)
    simpa [Array.toList_setIfInBounds, Nat.add_assoc] using e

theorem fill_ok {ρ : Rho} {I : Imm} {place : Nat → Option (Nat × Nat)} : ∀ (parts : List (Nat × AV)) (us : List (Nat × Value)) (cells res : List AV) (cs : Array Value), afill place cells parts = some res →
    us.map (·.1) = parts.map (·.1) → (∀ (i : Nat) p u, parts[i]? = some p → us[i]? = some u → CV ρ I p.2 u.2) → (∀ p ∈ parts, ∀ x ∈ p.2.cells, x.one = true) →
    cs.size = cells.length → (∀ (i : Nat) a u, cells[i]? = some a → cs[i]? = some u → CV ρ I a u) →
    ∃ out, Instr.fill place cs us = some out ∧ out.size = res.length ∧ ∀ (i : Nat) a u, res[i]? = some a → out[i]? = some u → CV ρ I a u
  | [], us, cells, res, cs, h, hm, _, _, hs, hv => by
    have : us = [] := by simpa using hm
    subst this
    simp only [afill, Option.some.injEq] at h
    subst h
    exact ⟨cs, rfl, hs, hv⟩
  | (i, x) :: rest, us, cells, res, cs, h, hm, hp, h1, hs, hv => by
    obtain ⟨j, u, us', rfl, rfl, hm'⟩ : ∃ j u us', us = (j, u) :: us' ∧ j = i ∧ us'.map (·.1) = rest.map (·.1) := by
      cases us with
      | nil => simp at hm
      | cons p us => simp only [List.map_cons, List.cons.injEq] at hm; exact ⟨p.1, p.2, us, rfl, hm.1, hm.2⟩
    simp only [afill] at h
    split at h
    · cases h
    · rename_i off size hpl
      split at h
      · rename_i hsz
        obtain ⟨hsz, hfit⟩ := hsz
        obtain ⟨hl, hcv, _⟩ := cells_cv (hp 0 (j, x) (j, u) rfl rfl) (h1 (j, x) (by simp))
        have hul : u.cells.size = size := by simp only [Array.length_toList] at hl; omega
        have hfold := setFold u.cells.toList off 0 cs (by simp; omega)
        have hfold' : (u.cells.zipIdx.foldl (fun cs p => cs.setIfInBounds (off + p.2) p.1) cs).toList = cs.toList.take off ++ u.cells.toList ++ cs.toList.drop (off + u.cells.toList.length) := by
          rw [← Array.foldl_toList]
          simpa [Array.toList_zipIdx] using hfold
        obtain ⟨out, ho, hos, hov⟩ := fill_ok rest us' (over cells off x.cells) res (u.cells.zipIdx.foldl (fun cs p => cs.setIfInBounds (off + p.2) p.1) cs) h hm'
          (fun i p v hp' hv' => hp (i + 1) p v (by simpa using hp') (by simpa using hv')) (fun p hp' => h1 p (by simp [hp']))
          (by rw [← Array.length_toList, hfold', over_length (by omega)]; simp; omega)
          (by
            intro q a v ha hv'
            rw [← Array.getElem?_toList, hfold'] at hv'
            simp only [over, List.append_assoc] at ha hv'
            by_cases hq : q < off
            · rw [List.getElem?_append_left (by simp; omega), List.getElem?_take, if_pos hq] at ha hv'
              exact hv q a v ha (by simpa using hv')
            · rw [List.getElem?_append_right (by simp; omega)] at ha hv'
              simp only [List.length_take, Array.length_toList, show min off cells.length = off by omega, show min off cs.size = off by omega] at ha hv'
              by_cases hq2 : q - off < x.cells.length
              · rw [List.getElem?_append_left hq2] at ha
                rw [List.getElem?_append_left (by simp; omega)] at hv'
                exact hcv _ a v ha hv'
              · rw [List.getElem?_append_right (by omega)] at ha
                rw [List.getElem?_append_right (by simp; omega)] at hv'
                simp only [Array.length_toList, List.getElem?_drop] at ha hv'
                refine hv q a v ?_ ?_
                · rw [← ha]; congr 1; omega
                · rw [Array.getElem?_toList] at hv'; rw [← hv']; congr 1; omega)
        refine ⟨out, ?_, hos, hov⟩
        simp only [Instr.fill, hpl]
        rw [if_neg (by simp; omega)]
        exact ho
      · cases h

end
end Go.Ax
