/- The abstract layer, part 16: slices of which it is known how much room they have; taking out of a slice in place. -/
import Derived.Test.YtmjookofajlcoaaAx15
namespace Go.Ax
variable {md : Md}

theorem SubV.slc {l off n c k : Nat} : SubV (.slc l off n c k) (.sl l off n k) := fun _ _ _ h => by
  cases h with | slc h hl hc hm hs => exact .sl h (by omega) hm hs
theorem SubV.slc_vec {l off c k : Nat} : SubV (.slc l off 0 c k) (.vec 0 []) := fun _ _ _ h => by
  cases h with | slc h hl hc hm hs => exact .vec0
theorem SubV.sl_slc {l off n k : Nat} : SubV (.sl l off n k) (.slc l off n n k) := fun _ _ _ h => by
  cases h with | sl h hl hm hs => exact .slc h (Nat.le_refl _) hl hm hs

/-- A block of which less is told. -/
theorem Conc.shrink {ρ : Rho} {I : Imm} {w : World} {H : AHeap} (hc : Conc ρ I w H) {l : Nat} {t : TypeId} {a b : List AV} (hl : H.get l = some (.cells t (a ++ b))) : Conc ρ I w (H.set l (.cells t a)) := by
  refine ⟨fun x y B C h1 h2 h3 h4 he => ?_, hc.dom, fun x o hx => ?_, hc.imm⟩
  · refine hc.inj x y B C h1 h2 ?_ ?_ he
    · by_cases e : x = l
      · subst e; simp [hl]
      · rwa [AHeap.get_set_ne _ _ e] at h3
    · by_cases e : y = l
      · subst e; simp [hl]
      · rwa [AHeap.get_set_ne _ _ e] at h4
  · by_cases e : x = l
    · subst e
      rw [AHeap.get_set_same] at hx
      cases hx
      obtain ⟨B, hB, hI, arr, h1, h2, h3, h4⟩ := hc.obj x _ hl
      refine ⟨B, hB, hI, arr, h1, h2, by simp at h3; omega, fun i z u hz hu => h4 i z u ?_ hu⟩
      rw [List.getElem?_append_left (List.getElem?_eq_some_iff.1 hz).1]
      exact hz
    · rw [AHeap.get_set_ne _ _ e] at hx
      exact hc.obj x o hx
theorem Ev.shrink {ρ : Rho} {I : Imm} {w : World} {H : AHeap} {l : Nat} {o o' : AObj} (hl : H.get l = some o) : Ev ρ I w H ρ I w (H.set l o') :=
  ⟨fun _ _ h => h, fun _ _ h => h, rfl, rfl, rfl, Nat.le_refl _, fun _ _ _ => rfl, fun b hb hn ⟨k, B, h1, h2, h3⟩ => hn ⟨k, B, h1, h2, by
    by_cases e : k = l
    · subst e; simp [hl]
    · rwa [AHeap.get_set_ne _ _ e] at h3⟩, Nat.le_refl _⟩
theorem Shift.heap {H H' : AHeap} (h : H = H') (xs : List AV) : Shift H xs H' xs := h ▸ Shift.refl H xs
theorem Shift.shrink {H : AHeap} {l : Nat} {t : TypeId} {a b : List AV} (xs : List AV) (hl : H.get l = some (.cells t (a ++ b))) : Shift H xs (H.set l (.cells t a)) xs :=
  fun _ I _ _ hc hx => ⟨I, hc.shrink hl, hx, Ev.shrink hl⟩
theorem AHeap.set_set (H : AHeap) (l : Nat) (a b : AObj) : (H.set l a).set l b = H.set l b := by
  refine AHeap.ext (fun k => ?_) rfl
  by_cases e : k = l
  · subst e; rw [AHeap.get_set_same, AHeap.get_set_same]
  · rw [AHeap.get_set_ne _ _ e, AHeap.get_set_ne _ _ e, AHeap.get_set_ne _ _ e]
theorem Shift.take {H H' : AHeap} {l m : Nat} {t : TypeId} {cs a : List AV} (xs : List AV) (hl : H.get l = some (.cells t cs)) (ha : cs.take m = a) (hH : H.set l (.cells t a) = H') : Shift H xs H' xs := by
  subst ha; subst hH
  exact Shift.shrink xs (b := cs.drop m) (by rw [List.take_append_drop]; exact hl)
theorem take_over {cs ys : List AV} {off : Nat} (h : off ≤ cs.length) : (over cs off ys).take off = cs.take off := by
  have : (cs.take off).length = off := by simp; omega
  rw [over, List.append_assoc, List.take_append_of_le_length (by omega), List.take_of_length_le (by omega)]
theorem over_take {cs ys : List AV} {off : Nat} (h : off ≤ cs.length) : (over cs off ys).take (off + ys.length) = cs.take off ++ ys := by
  have : (cs.take off ++ ys).length = off + ys.length := by simp; omega
  rw [over, List.take_append_of_le_length (by omega), List.take_of_length_le (by omega)]
theorem AW.shrink {P : Program} {c : Code} {Q : APost} {T : Fr} {H : AHeap} {n l : Nat} {t : TypeId} {a b : List AV} (hl : H.get l = some (.cells t (a ++ b))) (h : AW md P c Q T (H.set l (.cells t a)) n) : AW md P c Q T H n :=
  fun ρ I w x hc ht hn hd => wpIn_mono (h ρ I w x (hc.shrink hl) ht hn (hd.ev (Ev.shrink (I := I) hl))) fun _ _ _ f => f.of_ev (Ev.shrink hl)

theorem Src.tail {H : AHeap} {l len j k off m : Nat} {ty : TypeId} {cs : List AV} (h : H.get l = some (.cells ty cs)) (hl : cs.length = len * k) (hj : j ≤ len) (ho : j * k = off) (hm : len - j = m) : Src H k (.sl l off m k) m (cs.drop off) := by
  subst ho; subst hm
  have e : (len - j) * k + j * k = len * k := by rw [← Nat.add_mul]; congr 1; omega
  have := Src.sl (off := j * k) (n := len - j) (k := k) h (by omega)
  rwa [List.take_of_length_le (by simp; omega)] at this

section
variable {P : Program} {o : Oper} {T : Fr} {H : AHeap} {TT : Nat → TI} (hT : TOk P TT)
include hT

theorem AStepD.slice_slc {t e : TypeId} {x : Operand} {lo hi : Option Operand} {ll off len cap k l h : Nat} {z : AV} (ho : o.op = .slice t x lo hi none) (hx : SubV (aev T x) (.slc ll off len cap k)) (hok : (TT t).ok = true) (hoke : (TT e).ok = true) (hu : (TT t).und = .slice e) (hk : (TT e).size = k)
    (hlo : boundE T lo (0 : Nat) = (l : Int)) (hhi : boundE T hi (len : Nat) = (h : Int)) (h1 : l ≤ h) (h2 : h ≤ cap) (hz : (if l = cap ∧ 0 < l then AV.vec 0 [] else .slc ll (off + l * k) (h - l) (cap - l) k) = z) : AStepD P o T H z H := by
  subst hk; subst hz
  refine .of_pure fun ρ I w a _ ht => ?_
  have hv := hx _ _ _ (aev_cv ht x)
  generalize he : a.eval x = u at hv
  cases hv with
  | @slc _ _ _ _ _ c B hB hl hc hm hs =>
    refine ⟨_, by simp only [execOp, ho, Sem.run_bind, he, run_sliceAt hT ht hok hoke hu hlo hhi h1 (Nat.le_trans h2 hc) w, Result.andThen, Sem.run_pure]; rfl, ?_⟩
    by_cases hcl : l = cap ∧ 0 < l
    · rw [if_pos hcl, show h - l = 0 by omega]
      exact .vec0
    · rw [if_neg hcl]
      by_cases hl0 : c = l
      · have : l = 0 := by omega
        subst this
        rw [if_pos hl0]
        simp only [Nat.zero_mul, Nat.add_zero, Nat.sub_zero]
        exact .slc hB (by omega) hc hm hs
      · rw [if_neg hl0]
        simp only [Option.map_some, add_none]
        refine .slc hB (by omega) (by omega) (by omega) ?_
        have : (c - l) * (TT e).size + l * (TT e).size = c * (TT e).size := by rw [← Nat.add_mul]; congr 1; omega
        omega

theorem AStepD.slice_slc_in {t e : TypeId} {x : Operand} {lo hi : Option Operand} {ll off len cap k l h m off' cap' : Nat} (ho : o.op = .slice t x lo hi none) (hx : SubV (aev T x) (.slc ll off len cap k)) (hok : (TT t).ok = true) (hoke : (TT e).ok = true) (hu : (TT t).und = .slice e) (hk : (TT e).size = k)
    (hlo : boundE T lo (0 : Nat) = (l : Int)) (hhi : boundE T hi (len : Nat) = (h : Int)) (h1 : l ≤ h) (h2 : h ≤ cap) (hin : l < cap ∨ l = 0) (hm : h - l = m) (ho' : off + l * k = off') (hc' : cap - l = cap') : AStepD P o T H (.slc ll off' m cap' k) H := by
  subst hm; subst ho'; subst hc'
  exact .slice_slc hT ho hx hok hoke hu hk hlo hhi h1 h2 (if_neg (by omega))
theorem AStepD.slice_sl_in {t e : TypeId} {x : Operand} {lo hi : Option Operand} {ll off len k l h m off' : Nat} (ho : o.op = .slice t x lo hi none) (hx : aev T x = .sl ll off len k) (hok : (TT t).ok = true) (hoke : (TT e).ok = true) (hu : (TT t).und = .slice e) (hk : (TT e).size = k)
    (hlo : boundE T lo (0 : Nat) = (l : Int)) (hhi : boundE T hi (len : Nat) = (h : Int)) (h1 : l ≤ h) (h2 : h ≤ len) (hin : l < len ∨ l = 0) (hm : h - l = m) (ho' : off + l * k = off') : AStepD P o T H (.sl ll off' m k) H := by
  subst hm; subst ho'
  have := AStepD.slice_sl hT (H := H) ho hx hok hoke hu hk hlo hhi h1 h2
  rwa [if_neg (by omega)] at this
theorem AStepD.slice_sl_end {t e : TypeId} {x : Operand} {lo hi : Option Operand} {ll off len k l h : Nat} (ho : o.op = .slice t x lo hi none) (hx : aev T x = .sl ll off len k) (hok : (TT t).ok = true) (hoke : (TT e).ok = true) (hu : (TT t).und = .slice e) (hk : (TT e).size = k)
    (hlo : boundE T lo (0 : Nat) = (l : Int)) (hhi : boundE T hi (len : Nat) = (h : Int)) (h1 : l ≤ h) (h2 : h ≤ len) (hin : l = len ∧ 0 < l) : AStepD P o T H (.vec 0 []) H := by
  have := AStepD.slice_sl hT (H := H) ho hx hok hoke hu hk hlo hhi h1 h2
  rwa [if_pos hin] at this

theorem AStepD.indexAddr_sl' {t e : TypeId} {x y : Operand} {ll off len kk i off' : Nat} {k : IntKind} {j : Int} (ho : o.op = .indexAddr t x y) (hx : aev T x = .sl ll off len kk) (hy : aev T y = .v (.int k j)) (hok : (TT t).ok = true) (hu : (TT t).und = .slice e) (hoke : (TT e).ok = true)
    (hkk : (TT e).size = kk) (hj : j = (i : Int)) (hi : i < len) (hv : off + i * kk = off') : AStepD P o T H (.ptr ll off') H := hv ▸ .indexAddr_sl hT ho hx hy hok hoke hu hkk hj hi
theorem AStepD.indexAddr_arr' {t e : TypeId} {x y : Operand} {ll off n kk i off' : Nat} {k : IntKind} {j : Int} (ho : o.op = .indexAddr t x y) (hx : aev T x = .ptr ll off) (hy : aev T y = .v (.int k j)) (hok : (TT t).ok = true) (hu : (TT t).und = .array n e) (hoke : (TT e).ok = true)
    (hkk : (TT e).size = kk) (hj : j = (i : Int)) (hi : i < n) (hv : off + i * kk = off') : AStepD P o T H (.ptr ll off') H := hv ▸ .indexAddr_arr hT ho hx hy hok hoke hu hkk hj hi

/-- A cut with a bound on its room: nothing is told of it. -/
theorem AStepD.slice3_any {t e : TypeId} {x lo hi mx : Operand} {ll off len k l h m : Nat} (ho : o.op = .slice t x (some lo) (some hi) (some mx)) (hx : aev T x = .sl ll off len k) (hok : (TT t).ok = true) (hoke : (TT e).ok = true) (hu : (TT t).und = .slice e)
    (hlo : boundE T (some lo) (0 : Nat) = (l : Int)) (hhi : boundE T (some hi) (len : Nat) = (h : Int)) (hmx : boundE T (some mx) (len : Nat) = (m : Int)) (h1 : l ≤ h) (h2 : h ≤ m) (h3 : m ≤ len) : AStepD P o T H .any H := by
  refine .of_pure fun ρ I w a _ ht => ?_
  have hv := aev_eq ht hx
  generalize he : a.eval x = u at hv
  cases hv with
  | @sl _ _ _ _ c B hB hl hm hs =>
    have e1 := run_bound (P := P) ht hmx c (by omega) .slice3Acap w
    have e2 := run_bound (P := P) ht hhi m h2 .slice3B w
    have e3 := run_bound (P := P) ht hlo h h1 .slice3C w
    simp only [Option.map_some] at e1 e2 e3
    refine ⟨.slice (if m = l then some ⟨B.b, off, none⟩ else (some (⟨B.b, off, none⟩ : Addr)).map (·.add (l * (TT e).size))) (h - l) (m - l), ?_, .any _⟩
    simp [execOp, ho, he, Instr.sliceAt, Instr.slice, Instr.sliceBounds, (hT t hok).run_und w, hu, e1, e2, e3, (hT e hoke).run_size w]

/-- append where it is known that there is room. -/
theorem AStepD.append_slc {t t2 e : TypeId} {x y : Operand} {l off len cap n k bk m : Nat} {ys cs zs : List AV} {ty : TypeId} {src : AV} (ho : o.op = .call { callee := .builtin .append, args := #[x, y], argTypes := #[t, t2] }) (hx : SubV (aev T x) (.slc l off len cap k)) (hy : aev T y = src) (hok : (TT t).ok = true) (hu : (TT t).und = .slice e) (hok2 : (TT t2).ok = true) (hu2 : (TT t2).und = .slice e)
    (hoke : (TT e).ok = true) (hk : (TT e).size = k) (hbk : Nat.ble (TT e).bytes bk = true) (hH : H.get l = some (.cells ty cs))
    (hsrc : Src H k src n ys) (hys : ys.length = n * k) (hone : ∀ z ∈ ys, z.one = true) (hroom : len + n ≤ cap) (hfit : off + len * k + n * k ≤ cs.length) (hb : (len + n) * bk ≤ 140737488355328) (hm : len + n ≤ 9223372036854775807) (hmm : len + n = m) (hzs : over cs (off + len * k) ys = zs) :
    AStepD P o T H (.slc l off m cap k) (H.set l (.cells ty zs)) := by
  subst hk; subst hmm; subst hzs; subst hy
  have hb : (len + n) * (TT e).bytes ≤ 140737488355328 := Nat.le_trans (Nat.mul_le_mul_left _ (Nat.le_of_ble_eq_true hbk)) hb
  refine AStep.of_run fun ρ I w a hc ht => ?_
  have hv := hx _ _ _ (aev_cv ht x)
  obtain ⟨hlen, _, news, hnl, hnews, hncv⟩ := hsrc.read (P := P) hc hys (aev_cv ht y)
  generalize he : a.eval x = u at hv
  cases hv with
  | @slc _ _ _ _ _ c B hB hlc hcc hmc hsz =>
    obtain ⟨B', hB', hIB, arr, harr, hasz, hcl, hacv⟩ := hc.obj l _ hH
    rw [hB] at hB'; cases hB'
    have holds : ∀ w', w'.heap = w.heap → (Builtin.firstCells (TT e).size len (.slice (some ⟨B.b, off, none⟩) len c)).run P w' = .ok ((arr.toList.drop off).take (len * (TT e).size)).toArray w' := by
      intro w' hw'
      refine run_firstCells_some (P := P) w' _ _ _ _ _ _ (by simp; omega) (fun j v hv => ?_)
      rw [add_none, cell_of (by rw [hw']; exact harr)]
      rw [List.getElem?_take] at hv
      split at hv
      · rw [List.getElem?_drop] at hv; simpa using hv
      · cases hv
    have hone' : ∀ v ∈ news, v.oneCell' = true := by
      intro v hv
      obtain ⟨i, hi⟩ := List.mem_iff_getElem?.1 hv
      have hil : i < ys.length := by rw [← hnl]; exact (List.getElem?_eq_some_iff.1 hi).1
      exact one_cell (hncv i ys[i] v (by simp [hil]) hi) (hone _ (List.getElem_mem hil))
    have hrun := run_append hT (ty := o.type) hok hoke hok2 hu ⟨_, .inl hu2⟩ hlen hnews holds hb hm
    rw [if_pos (show len + n ≤ c by omega)] at hrun
    have hst := run_storeCells_at P B.b (off + len * (TT e).size) ty news 0 arr w harr (by omega) hone'
    simp only [Nat.add_zero] at hst
    simp only [add_none, hst, Result.andThen] at hrun
    obtain ⟨B2, arr2, hB2, hb2, hfit2, hc', ev⟩ := hc.over hH hnl hncv (by omega : off + len * (TT e).size + ys.length ≤ cs.length)
    rw [hB] at hB2; cases hB2
    rw [harr] at hb2; cases hb2
    refine ⟨_, _, _, ρ, I, _, ?_, ⟨rfl, rfl⟩, .slc hB (by omega) hcc hmc hsz, hc', ev⟩
    refine run_builtin ho a w ?_
    rw [show (#[x, y] : Array Operand).map a.eval = #[a.eval x, a.eval y] from by simp, he]
    simp only [builtin, Sem.run_bind, hrun, Result.andThen, Sem.run_pure]

/-- clear of a slice. -/
theorem AStepD.clear_slc {t e : TypeId} {x : Operand} {l off len cap k : Nat} {cs zs : List AV} {ty : TypeId} (ho : o.op = .call { callee := .builtin .clear, args := #[x], argTypes := #[t] }) (hx : aev T x = .slc l off len cap k) (hok : (TT t).ok = true) (hu : (TT t).und = .slice e)
    (hoke : (TT e).ok = true) (hk : (TT e).size = k) (hzo : ∀ v ∈ (TT e).zero.cells.toList, v.oneCell' = true) (hH : H.get l = some (.cells ty cs)) (hfit : off + len * k ≤ cs.length) (hzs : over cs off (zerosA (TT e).zero len) = zs) :
    AStepD P o T H .any (H.set l (.cells ty zs)) := by
  subst hk; subst hzs
  refine AStep.of_run fun ρ I w a hc ht => ?_
  have hv := aev_eq ht hx
  have hz := (hT e hoke).zs
  generalize he : a.eval x = u at hv
  cases hv with
  | @slc _ _ _ _ _ c B hB hlc hcc hmc hsz =>
    obtain ⟨B', hB', hIB, arr, harr, hasz, hcl, hacv⟩ := hc.obj l _ hH
    rw [hB] at hB'; cases hB'
    have hzl : (zerosA (TT e).zero len).length = len * (TT e).size := by simp [zerosA, hz]
    by_cases h0 : len = 0
    · subst h0
      have hov : over cs off (zerosA (TT e).zero 0) = cs := by simp [zerosA, over]
      rw [hov]
      have hl' : H.get l = some (.cells ty (cs ++ [])) := by simpa using hH
      refine ⟨_, w, _, ρ, I, _, run_builtin (u := .tuple #[]) (w' := w) ho a w ?_, ⟨rfl, rfl⟩, .any _, hc.shrink hl', Ev.shrink hl'⟩
      rw [show (#[x] : Array Operand).map a.eval = #[a.eval x] from by simp, he]
      simp [builtin, Builtin.clear_, (hT t hok).run_und w, hu]
    · obtain ⟨B2, arr2, hB2, hb2, hfit2, hc', ev⟩ := hc.over (us := (Builtin.zeroCells (TT e).zero.cells len).toList) hH (by simp [Builtin.zeroCells, hzl, hz])
        (fun i z u hz' hu' => by
          simp only [zerosA, List.getElem?_map] at hz'
          simp only [Builtin.zeroCells, Array.toList_map, List.getElem?_map, Array.toList_range] at hu'
          cases hr : (List.range (len * (TT e).zero.cells.size))[i]? with
          | none => rw [hr] at hz'; cases hz'
          | some j =>
            rw [hr] at hz' hu'
            simp only [Option.map_some, Option.some.injEq] at hz' hu'
            subst hz'; subst hu'
            exact .v _) (by omega : off + (zerosA (TT e).zero len).length ≤ cs.length)
      rw [hB] at hB2; cases hB2
      rw [harr] at hb2; cases hb2
      have hst := run_storeCells_at P B.b off ty (Builtin.zeroCells (TT e).zero.cells len).toList 0 arr w harr (by omega) (fun v hv => by
        simp only [Builtin.zeroCells, Array.toList_map, List.mem_map, Array.toList_range, List.mem_range] at hv
        obtain ⟨j, hj, rfl⟩ := hv
        have hpos : 0 < (TT e).zero.cells.size := Nat.pos_of_ne_zero fun h => by rw [h] at hj; simp at hj
        have hm := Nat.mod_lt j hpos
        rw [getElem!_pos (TT e).zero.cells _ hm]
        exact hzo _ (by simp))
      simp only [Nat.add_zero] at hst
      refine ⟨_, _, _, ρ, I, _, run_builtin (u := .tuple #[]) ho a w ?_, ⟨rfl, rfl⟩, .any _, hc', ev⟩
      rw [show (#[x] : Array Operand).map a.eval = #[a.eval x] from by simp, he]
      obtain ⟨m, rfl⟩ : ∃ m, len = m + 1 := ⟨len - 1, by omega⟩
      simp only [builtin, Builtin.clear_, Sem.run_bind, List.getElem?_toArray, List.getElem?_cons_zero, (hT t hok).run_und w, hu, (hT e hoke).run_zero w, Result.andThen, hst, Sem.run_pure]
end
end Go.Ax
