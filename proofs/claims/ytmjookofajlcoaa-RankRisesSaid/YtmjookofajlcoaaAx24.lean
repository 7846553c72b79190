/- The abstract layer, part 24: slices whose room is known, copies, append of zeros, functions of the library that have no body. -/
import Derived.Test.YtmjookofajlcoaaAx23
import Derived.Lib.AppendZerosOnto
import Derived.Lib.Overlaps
namespace Go.Ax
variable {md : Md}

theorem SubV.slx_sl {l off len cap k : Nat} : SubV (.slx l off len cap k) (.sl l off len k) := fun _ _ _ h => by
  cases h with | slx h hl hm hs => exact .sl h hl hm hs

/-- More of a block is told of: its room. -/
theorem Conc.widen {ρ : Rho} {I : Imm} {w : World} {H : AHeap} (hc : Conc ρ I w H) {l : Nat} {t : TypeId} {cs : List AV} (hl : H.get l = some (.cells t cs)) {B : Blk} (hB : ρ l = some B) {n : Nat} (hn : cs.length + n ≤ B.sz) :
    Conc ρ I w (H.set l (.cells t (cs ++ List.replicate n .any))) := by
  refine ⟨fun x y B C h1 h2 h3 h4 he => ?_, hc.dom, fun x o hx => ?_, hc.imm⟩
  · refine hc.inj x y B C h1 h2 ?_ ?_ he
    · by_cases e : x = l
      · subst e; simp [hl]
      · rwa [AHeap.get_set_ne _ _ e] at h3
    · by_cases e : y = l
      · subst e; simp [hl]
      · rwa [AHeap.get_set_ne _ _ e] at h4
  · by_cases e : x = l
    · subst e
      rw [AHeap.get_set_same] at hx
      cases hx
      obtain ⟨B', hB', hI, arr, h1, h2, h3, h4⟩ := hc.obj x _ hl
      rw [hB] at hB'; cases hB'
      refine ⟨B, hB, hI, arr, h1, h2, by simp; omega, fun i z u hz hu => ?_⟩
      by_cases hi : i < cs.length
      · rw [List.getElem?_append_left hi] at hz
        exact h4 i z u hz hu
      · rw [List.getElem?_append_right (by omega)] at hz
        have := (List.mem_replicate.1 (List.mem_of_getElem? hz)).2
        subst this
        exact .any u
    · rw [AHeap.get_set_ne _ _ e] at hx
      exact hc.obj x o hx

theorem AW.cap {P : Program} {c : Code} {Q : APost} {T : Fr} {H : AHeap} {n s l len k : Nat} {t : TypeId} {cs : List AV} (hx : look T s = .sl l 0 len k) (hH : H.get l = some (.cells t cs)) (hcs : cs.length = len * k)
    (h : ∀ q, len ≤ q → q ≤ maxLen → AW md P c Q ((s, .slx l 0 len q k) :: T) (H.set l (.cells t (cs ++ List.replicate ((q - len) * k) .any))) n) : AW md P c Q T H n := by
  intro ρ I w a hc ht hn hd
  have hs := ht s
  rw [hx] at hs
  generalize hu : a.tmps.getD s undef = u at hs
  cases hs with
  | @sl _ _ _ _ q B hB hl hm hsz =>
    have hmul : (q - len) * k + len * k = q * k := by rw [← Nat.add_mul]; congr 1; omega
    refine wpIn_mono (h q hl hm ρ I w a (hc.widen hH hB (by omega)) (fun i => ?_) hn (hd.ev (Ev.shrink (I := I) hH))) fun _ _ _ f => f.of_ev (Ev.shrink hH)
    rw [look_cons]
    split
    · rename_i e; subst e; rw [hu]; exact .slx hB hl hm hsz
    · exact ht i

/-- What a copy reads: a source of n elements, the first m of them. -/
inductive SrcN (H : AHeap) (k : Nat) : AV → Nat → Nat → List AV → Prop
  | all {x : AV} {n : Nat} {ys : List AV} (h : Src H k x n ys) : SrcN H k x n n ys
  | sl {l off n m : Nat} {ty : TypeId} {cs : List AV} (h : H.get l = some (.cells ty cs)) (hm : m ≤ n) (hf : off + m * k ≤ cs.length) : SrcN H k (.sl l off n k) n m ((cs.drop off).take (m * k))

theorem SrcN.read {P : Program} {H : AHeap} {ρ : Rho} {I : Imm} {w : World} (hc : Conc ρ I w H) {k n m : Nat} {ys : List AV} {y : AV} (h : SrcN H k y n m ys) (hl : ys.length = m * k) {u : Value} (hu : CV ρ I y u) :
    (∀ w', (Builtin.lenOf u).run P w' = .ok n w') ∧ ∃ news : List Value, news.length = ys.length ∧ (∀ w', w'.heap = w.heap → (Builtin.firstCells k m u).run P w' = .ok news.toArray w') ∧
      ∀ (i : Nat) a v, ys[i]? = some a → news[i]? = some v → CV ρ I a v := by
  cases h with
  | all h =>
    obtain ⟨h1, _, h2⟩ := h.read (P := P) hc hl hu
    exact ⟨h1, h2⟩
  | @sl l off _ _ ty cs hH hm hf =>
    obtain ⟨B, hB, _, hat⟩ := hc.obj l _ hH
    obtain ⟨vs, hvl, hcell, hcv⟩ := obj_stretch hat hf
    cases hu with
    | @sl _ _ _ _ c B' hB' h1 h2 h3 =>
      rw [hB] at hB'; cases hB'
      refine ⟨fun w' => rfl, vs, by simp [hvl]; omega, fun w' hw' => ?_, hcv⟩
      refine run_firstCells_some (P := P) w' k m ⟨B.b, off, none⟩ n c vs hvl (fun j v hv => ?_)
      rw [add_none]
      have := hcell j v hv
      unfold World.cell? at this ⊢
      rw [hw']; exact this

section
variable {P : Program} {o : Oper} {T : Fr} {H : AHeap} {TT : Nat → TI} (hT : TOk P TT)
include hT

theorem AStepD.cap_slx {t e : TypeId} {x : Operand} {l off len cap k : Nat} (ho : o.op = .call { callee := .builtin .cap, args := #[x], argTypes := #[t] }) (hx : aev T x = .slx l off len cap k) (hok : (TT t).ok = true) (hu : (TT t).und = .slice e) :
    AStepD P o T H (.v (.int .i64 (cap : Int))) H := by
  refine .of_pure fun ρ I w a _ ht => ⟨_, run_builtin ho a w ?_, .v _⟩
  have hv := aev_eq ht hx
  rw [show (#[x] : Array Operand).map a.eval = #[a.eval x] from by simp]
  generalize a.eval x = u at hv ⊢
  cases hv with
  | slx hB hl hm hs => simp [builtin, Builtin.cap_, Sem.run_bind, Result.andThen, goInt, (hT t hok).run_und w, hu]

theorem AStepD.slice_slx {t e : TypeId} {x : Operand} {lo hi : Option Operand} {ll off len cap k l h m off' cap' : Nat} (ho : o.op = .slice t x lo hi none) (hx : aev T x = .slx ll off len cap k) (hok : (TT t).ok = true) (hoke : (TT e).ok = true) (hu : (TT t).und = .slice e) (hk : (TT e).size = k)
    (hlo : boundE T lo (0 : Nat) = (l : Int)) (hhi : boundE T hi (len : Nat) = (h : Int)) (h1 : l ≤ h) (h2 : h ≤ cap) (hin : l < cap ∨ l = 0) (hm : h - l = m) (ho' : off + l * k = off') (hc' : cap - l = cap') : AStepD P o T H (.slx ll off' m cap' k) H := by
  subst hk; subst hm; subst ho'; subst hc'
  refine .of_pure fun ρ I w a _ ht => ?_
  have hv := aev_eq ht hx
  generalize he : a.eval x = u at hv
  cases hv with
  | @slx _ _ _ _ _ B hB hl hm hs =>
    refine ⟨_, by simp only [execOp, ho, Sem.run_bind, he, run_sliceAt hT ht hok hoke hu hlo hhi h1 h2 w, Result.andThen, Sem.run_pure]; rfl, ?_⟩
    by_cases hl0 : cap = l
    · have : l = 0 := by omega
      subst this
      rw [if_pos hl0]
      simp only [Nat.zero_mul, Nat.add_zero, Nat.sub_zero]
      exact .slx hB (by omega) hm hs
    · rw [if_neg hl0]
      simp only [Option.map_some, add_none]
      refine .slx hB (by omega) (by omega) ?_
      have : (cap - l) * (TT e).size + l * (TT e).size = cap * (TT e).size := by rw [← Nat.add_mul]; congr 1; omega
      omega

theorem AStepD.copy {t t2 e : TypeId} {x z : Operand} {l off len n m k : Nat} {ys cs zs : List AV} {ty : TypeId} {s : AV} (ho : o.op = .call { callee := .builtin .copy, args := #[x, z], argTypes := #[t, t2] }) (hx : SubV (aev T x) (.sl l off len k)) (hz : SubV (aev T z) s)
    (hok : (TT t).ok = true) (hu : (TT t).und = .slice e) (hoke : (TT e).ok = true) (hk : (TT e).size = k) (hs : SrcN H k s n m ys) (hm : min n len = m) (hys : ys.length = m * k) (hone : ∀ z ∈ ys, z.one = true)
    (hH : H.get l = some (.cells ty cs)) (hfit : off + m * k ≤ cs.length) (hzs : over cs off ys = zs) : AStepD P o T H (.v (.int .i64 (m : Int))) (H.set l (.cells ty zs)) := by
  subst hk; subst hzs
  refine AStep.of_run fun ρ I w a hc ht => ?_
  have hv := hx _ _ _ (aev_cv ht x)
  have hzv := hz _ _ _ (aev_cv ht z)
  obtain ⟨hlen, news, hnl, hnews, hncv⟩ := hs.read (P := P) hc hys hzv
  have hone' : ∀ v ∈ news, v.oneCell' = true := by
    intro v hv
    obtain ⟨i, hi⟩ := List.mem_iff_getElem?.1 hv
    have hil : i < ys.length := by rw [← hnl]; exact (List.getElem?_eq_some_iff.1 hi).1
    exact one_cell (hncv i ys[i] v (by simp [hil]) hi) (hone _ (List.getElem_mem hil))
  generalize he : a.eval x = u at hv
  cases hv with
  | @sl _ _ _ _ c B hB hlc hmc hsz =>
    obtain ⟨B2, arr2, hB2, hb2, hfit2, hc', ev⟩ := hc.over (off := off) (xs := ys) (us := news) hH hnl hncv (by omega)
    rw [hB] at hB2; cases hB2
    have hst := run_storeCells_at P B.b off ty news 0 arr2 w hb2 (by omega) hone'
    simp only [Nat.add_zero] at hst
    refine ⟨_, _, _, ρ, I, _, run_builtin (u := .int .i64 (m : Int)) ho a w ?_, ⟨rfl, rfl⟩, .v _, hc', ev⟩
    rw [show (#[x, z] : Array Operand).map a.eval = #[a.eval x, a.eval z] from by simp, he]
    have hm' : Nat.min n len = m := hm
    simp only [builtin, Builtin.copy_, Sem.run_bind, List.getElem?_toArray, List.getElem?_cons_zero, List.getElem?_cons_succ, (hT t hok).run_und w, hu, (hT e hoke).run_size w, hlen w, Result.andThen, hm', hnews w rfl, hst, Sem.run_pure, goInt]

theorem AStepD.append_zeros {t t2 e : TypeId} {x y : Operand} {l len cap n k : Nat} {cs zs : List AV} {ty : TypeId} {kn kq : IntKind} {j : Int} (ho : o.op = .call { callee := .builtin .append, args := #[x, y], argTypes := #[t, t2] }) (hx : aev T x = .slx l 0 len cap k) (hy : aev T y = .v (.int kq j)) (hj : j = (n : Int))
    (hok : (TT t).ok = true) (hu : (TT t).und = .slice e) (hok2 : (TT t2).ok = true) (hu2 : (TT t2).und = .int kn) (hoke : (TT e).ok = true) (hk : (TT e).size = k) (hk0 : 0 < k) (hH : H.get l = some (.cells ty cs)) (hcs : len * k ≤ cs.length) (h0 : 0 < n) (hg : cap < len + n)
    (hb : (len + n) * (TT e).bytes ≤ 140737488355328) (hm : len + n ≤ 9223372036854775807) (hzs : cs.take (len * k) ++ zerosA (TT e).zero n = zs) :
    AStepD P o T H (.sl H.next 0 (len + n) k) (H.new (.cells e zs)) := by
  subst hk; subst hzs; subst hj
  refine AStep.of_run fun ρ I w a hc ht => ?_
  have hv := aev_eq ht hx
  have hyv := cv_v (aev_eq ht hy)
  generalize he : a.eval x = u at hv
  cases hv with
  | @slx _ _ _ _ _ B hB hlc hmc hsz =>
    obtain ⟨B', hB', hIB, arr, harr, hasz, hcl, hacv⟩ := hc.obj l _ hH
    rw [hB] at hB'; cases hB'
    simp only [Nat.zero_add] at hsz
    obtain ⟨f, hf, hf1, hf2, hf3⟩ := (hT e hoke).info
    have hfit := growslice_fits (need := len + n) (old := cap) (bytes := (TT e).bytes) (by omega) hb
    have hold : (Builtin.firstCells f.size len (.slice (some ⟨B.b, 0, none⟩) len cap)).run P w.drew = .ok (arr.toList.take (len * (TT e).size)).toArray w.drew := by
      rw [hf2]
      refine run_firstCells_some (P := P) w.drew _ _ _ _ _ _ (by simp; omega) (fun j v hv => ?_)
      rw [add_none, cell_of (w := w.drew) harr]
      rw [List.getElem?_take] at hv
      split at hv
      · simpa using hv
      · cases hv
    have hnb : n * (TT e).bytes ≤ (len + n) * (TT e).bytes := Nat.mul_le_mul_right _ (by omega)
    have hrun := Lib.run_append_grow_zeros (P := P) w t t2 o.type e f (TT e).zero kq kn (by rw [(hT t hok).und, hu]) (by rw [(hT t2 hok2).und, hu2]) hf hf1 (some ⟨B.b, 0, none⟩) len cap _ hold n h0 (by rw [hf2]; exact hk0) hg (by omega) (by rw [hf3]; omega) (by rw [hf3]; exact hfit)
    have hge := grownCap_ge w (len + n) cap e
    have hle := grownCap_le_maxLen w (len + n) cap e (by unfold maxLen; omega)
    have hzs := (hT e hoke).zs
    have e2 : (len + n) * (TT e).size = len * (TT e).size + n * (TT e).size := Nat.add_mul _ _ _
    have hzl : (zerosA (TT e).zero n).length = n * (TT e).size := by simp [zerosA, hzs]
    obtain ⟨hc1, ev1⟩ := hc.drew.alloc (ty := e) (cs := cs.take (len * (TT e).size) ++ zerosA (TT e).zero n) (arr := (arr.toList.take (len * (TT e).size)).toArray ++ Builtin.zeroCells (TT e).zero.cells n ++ Builtin.zeroCells (TT e).zero.cells (grownCap w (len + n) cap e - (len + n)))
      (by simp [size_zeroCells, hzs, hzl]; omega) (by
      intro i z v hz hv
      have hil := (List.getElem?_eq_some_iff.1 hz).1
      have : ((arr.toList.take (len * (TT e).size)).toArray ++ Builtin.zeroCells (TT e).zero.cells n ++ Builtin.zeroCells (TT e).zero.cells (grownCap w (len + n) cap e - (len + n)))[i]? = (arr.toList.take (len * (TT e).size) ++ (Builtin.zeroCells (TT e).zero.cells n).toList)[i]? := by
        rw [Array.getElem?_append_left (by simp [size_zeroCells, hzs, hzl] at hil ⊢; omega)]
        rw [← Array.getElem?_toList]
        simp
      rw [this] at hv
      refine cv_append (us := arr.toList.take (len * (TT e).size)) (by simp; omega) (fun i z v hz hv => ?_) (fun i z u hz' hu' => ?_) i z v hz hv
      · rw [List.getElem?_take] at hv hz
        split at hv
        · rename_i hi
          rw [if_pos hi] at hz
          exact hacv i z v hz (by simpa using hv)
        · cases hv
      · simp only [zerosA, List.getElem?_map] at hz'
        simp only [Builtin.zeroCells, Array.toList_map, List.getElem?_map, Array.toList_range] at hu'
        cases hr : (List.range (n * (TT e).zero.cells.size))[i]? with
        | none => rw [hr] at hz'; cases hz'
        | some j =>
          rw [hr] at hz' hu'
          simp only [Option.map_some, Option.some.injEq] at hz' hu'
          subst hz'; subst hu'
          exact .v _)
    refine ⟨.slice (some ⟨w.heap.size, 0, none⟩) (len + n) (grownCap w (len + n) cap e), _, _, _, _, _, run_builtin ho a w ?_, ⟨rfl, rfl⟩, ?_, hc1, (Ev.drew ρ I w H).trans ev1⟩
    · rw [show (#[x, y] : Array Operand).map a.eval = #[a.eval x, a.eval y] from by simp, he, hyv]
      simp only [builtin, Sem.run_bind, hrun, Result.andThen, Sem.run_pure]
    · refine .sl (B := ⟨w.heap.size, _⟩) (by simp [Rho.new]; rfl) (by omega) hle ?_
      have e1 : (grownCap w (len + n) cap e - (len + n)) * (TT e).size + (len + n) * (TT e).size = grownCap w (len + n) cap e * (TT e).size := by rw [← Nat.add_mul]; congr 1; omega
      simp [size_zeroCells, hzs]
      omega
end

/-- A function of the library that has no body. -/
theorem AStepD.extern {P : Program} {o : Oper} {T : Fr} {H : AHeap} {f : FuncId} {fn : Func} {args : Array Operand} {ats : Array TypeId} {e : Array Value → Sem Value} {x : AV} (ho : o.op = .call { callee := .value (.func f), args := args, argTypes := ats }) (hf : P.funcs[f]? = some fn)
    (hname : (fn.name == "runtime.NumGoroutine") = false) (hb : fn.body.isNone = true) (hn : Extern.findNext fn = none) (he : Extern.find fn = some e)
    (h : ∀ ρ I w a, Conc ρ I w H → TV ρ I T a → ∃ u, (e (args.map a.eval)).run P w = .ok u w ∧ CV ρ I x u) : AStepD P o T H x H := by
  refine .of_pure fun ρ I w a hc ht => ?_
  obtain ⟨u, hr, hv⟩ := h ρ I w a hc ht
  refine ⟨u, ?_, hv⟩
  simp only [execOp, ho, resolve, Act.eval, Deferred.ofValue, invoke, Sem.run_bind, Sem.run_pure, Result.andThen, Array.empty_append, Array.append_empty]
  rw [run_callFunc_extern hf hname hb hn he]
  have hr' : (e (args.map a.eval)).run P w = .ok u w := hr
  simp only [Array.append_empty, Array.empty_append, hr', Result.andThen]
end Go.Ax
