/- Texts cut and split, as abstract calls. -/
import Derived.Test.YtcomjodfkcnjhaaGreatDoorCN3
import Derived.Shelf.Strings.Cut
import Derived.Shelf.Strings.Prefix
import Derived.Shelf.Strings.Split
set_option linter.unusedSimpArgs false
set_option linter.unusedVariables false
namespace Go.Proofs.YtcomjodfkcnjhaaGreatDoor
open Go.Ax
open Cel (c)
set_option linter.unusedSimpArgs false
set_option linter.unusedVariables false
set_option maxRecDepth 20000
open Cel (c)

theorem max_cell {ρ : Rho} {I : Imm} {w : World} {H : AHeap} (hc : Conc ρ I w H) : ∃ m, w.cell? ⟨1, 0, none⟩ = some (.int .i64 m) := by
  obtain ⟨arr, h1, h2, h3⟩ := hc.glob 1 _ rfl
  obtain ⟨t, fz, h4⟩ := hc.imm _ _ h1
  have h0 : 0 < arr.size := by simpa using Nat.lt_of_lt_of_eq (Nat.zero_lt_one) h2.symm
  have hu := h3 0 _ _ rfl (List.getElem?_eq_getElem (by simpa using h0))
  cases hg : arr.toList[0]'(by simpa using h0) with
  | int k m =>
    rw [hg] at hu
    cases hu
    refine ⟨m, ?_⟩
    rw [World.cell?]
    simp only [h4]
    have : arr[0] = .int .i64 m := by simpa using hg
    simp [this, h0]
  | _ => rw [hg] at hu; cases hu
theorem two_vs {ρ : Rho} {I : Imm} {a b : AV} {vs : List Value} (h : CVs ρ I [a, b] vs) : ∃ u v, vs = [u, v] ∧ CV ρ I a u ∧ CV ρ I b v := by
  match vs, h.1 with
  | [u, v], _ => exact ⟨u, v, rfl, h.2 0 _ _ rfl rfl, h.2 1 _ _ rfl rfl⟩
theorem trim_calls (H : AHeap) (l m : List UInt8) (hl : l.length ≤ 1000000) : ACalls Tryz.prog 45 [strA l, strA m] H (fun r H' => r = strA (Lib.trimSuffix l m) ∧ H' = H) := by
  refine ACalls.of_below fun ρ I w vs hc ha => ?_
  obtain ⟨u, v, rfl, h1, h2⟩ := two_vs ha
  have h1 := cv_v h1; have h2 := cv_v h2
  subst h1; subst h2
  refine (Any.strings_TrimSuffix lays102 (str l) (str m) w (by rw [str_size]; omega)).mono fun e w' ⟨he, hw⟩ => ⟨_, he, ?_, ?_⟩
  · rw [str_list, str_list]; exact .v _
  · subst hw; exact .refl _ _
theorem cut3_calls (H : AHeap) (l m : List UInt8) (hl : l.length ≤ 1000000) : ACalls Tryz.prog 75 [strA l, strA m] H (fun r H' => r = .tup [strA (Lib.cut l m).1, strA (Lib.cut l m).2.1, .v (.bool (Lib.cut l m).2.2)] ∧ H' = H) := by
  refine ACalls.of_below fun ρ I w vs hc ha => ?_
  obtain ⟨u, v, rfl, h1, h2⟩ := two_vs ha
  have h1 := cv_v h1; have h2 := cv_v h2
  subst h1; subst h2
  obtain ⟨q, hq⟩ := max_cell hc
  refine (Any.strings_Cut lays145 (str l) (str m) q w (by rw [str_size]; omega) hq).mono fun e w' ⟨he, n, hw⟩ => ⟨_, he, ?_, ?_⟩
  · rw [str_list, str_list]
    exact .tup (vs := [_, _, _]) rfl fun i b u hb hu => by
      match i, hb, hu with
      | 0, hb, hu => cases hb; cases hu; exact .v _
      | 1, hb, hu => cases hb; cases hu; exact .v _
      | 2, hb, hu => cases hb; cases hu; exact .v _
  · subst hw
    exact ⟨rfl, rfl, rfl, Nat.le_refl _, fun _ _ => rfl⟩
theorem occ_one (l : List UInt8) (b : UInt8) (i : Nat) : Lib.occAt l [b] i = decide (l[i]? = some b) := by
  rw [Lib.occAt]
  cases h : l.drop i with
  | nil =>
    have : l[i]? = none := List.getElem?_eq_none (by have := congrArg List.length h; rw [List.length_drop, List.length_nil] at this; omega)
    rw [this]; rfl
  | cons x r =>
    have : l[i]? = some x := by
      have h2 := List.getElem?_drop (xs := l) (i := i) (j := 0)
      rw [h] at h2; simpa using h2.symm
    rw [this]
    simp only [List.isPrefixOf, Bool.and_true, Option.some.injEq]
    rw [Bool.eq_iff_iff]; simp only [beq_iff_eq, decide_eq_true_eq]
    exact ⟨fun h => h.symm, fun h => h.symm⟩
theorem splitK_one (b : UInt8) : ∀ (k : Nat) (l : List UInt8), l.count b = k → Lib.splitK [b] 0 k l = splitB b l
  | 0, l, h => by rw [split_none b l (List.count_eq_zero.1 h)]; rfl
  | k + 1, l, h => by
    rcases Lib.index_spec l [b] with ⟨h1, h2⟩ | ⟨i, h1, h2, h3, h4⟩
    · have : b ∉ l := fun hm => by
        obtain ⟨j, hj, e⟩ := List.mem_iff_getElem.1 hm
        have := h2 j (by omega)
        rw [occ_one, List.getElem?_eq_getElem hj, e] at this
        simp at this
      rw [List.count_eq_zero.2 this] at h; omega
    · rw [occ_one, decide_eq_true_eq] at h3
      have h5 := split_at b l i h3 fun j hj => by
        have := h4 j hj
        rw [occ_one, decide_eq_false_iff_not] at this
        exact this
      rw [Lib.splitK, h1, if_neg (by simp), h5, show ((i : Int)).toNat + 0 = i from rfl]
      refine congrArg (l.take i :: ·) (splitK_one b k _ ?_)
      have hi := (List.getElem?_eq_some_iff.1 h3)
      obtain ⟨hil, hie⟩ := hi
      have e : l = l.take i ++ l[i] :: l.drop (i + 1) := (List.take_append_drop i l).symm.trans (by rw [List.drop_eq_getElem_cons hil])
      have hc0 : (l.take i).count b = 0 := List.count_eq_zero.2 fun hm => by
        obtain ⟨j, hj, ej⟩ := List.mem_iff_getElem.1 hm
        rw [List.length_take] at hj
        have := h4 j (by omega)
        rw [occ_one, decide_eq_false_iff_not] at this
        rw [List.getElem_take] at ej
        exact this (by rw [List.getElem?_eq_getElem (by omega), ej])
      rw [e, List.count_append, hc0, hie, List.count_cons_self] at h
      show (l.drop (i + 1)).count b = k
      omega
theorem splitS_calls (H : AHeap) (l : List UInt8) (b : UInt8) (hl : l.length ≤ 1000000) : ACalls Tryz.prog 44 [strA l, strA [b]] H (fun r H' => r = vecA (splitB b l) ∧ H' = H) := by
  refine ACalls.of_below_imm fun ρ I w vs hc ha => ?_
  obtain ⟨u, v, rfl, h1, h2⟩ := two_vs ha
  have h1 := cv_v h1; have h2 := cv_v h2
  subst h1; subst h2
  obtain ⟨q, hq⟩ := max_cell hc
  have hcnt : Lib.countB (str l) (str [b]) = l.count b := by
    show Lib.count (str l).data.toList (str [b]).data.toList = _
    rw [str_list, str_list, Lib.count_one]
  have hsp : (Lib.splitB (str [b]) 0 (Lib.countB (str l) (str [b])) (str l)).map Value.string = (splitB b l).map fun p => .string (str p) := by
    have h1 := Lib.splitB_data (str [b]) 0 (Lib.countB (str l) (str [b])) (str l)
    rw [str_list, str_list, hcnt, splitK_one b _ l rfl] at h1
    rw [hcnt, ← h1, List.map_map]
    exact List.map_congr_left fun x _ => congrArg Value.string (str_of x)
  have hlen : Lib.countB (str l) (str [b]) + 1 = (splitB b l).length := by
    have h1 := Lib.splitB_all (str [b]) (by rw [str_size]; exact Nat.le_refl _) 0 _ (str l) rfl
    have h2 := congrArg List.length hsp
    rw [List.length_map, List.length_map, h1] at h2
    exact h2
  have hc1 := Any.strings_Split lays146 (by kernel_rfl) (str l) (str [b]) q w (by rw [str_size]; omega) hq (by rw [str_size]; exact Nat.le_refl _)
  rw [hsp, hlen] at hc1
  refine hc1.mono fun e w' ⟨he, hw⟩ => ?_
  subst hw
  refine ⟨_, fun k => if k = w.heap.size then some ((splitB b l).map fun p => .string (str p)).toArray else I k, he, ?_, ?_, ?_, ?_⟩
  · refine .vec (vs := (splitB b l).map fun p => .string (str p)) (Nat.le_refl _) ?_ (if_pos rfl) ?_ ?_ ?_
    · have hle := Lib.countB_le (str [b]) (by rw [str_size]; exact Nat.le_refl _) _ (str l) (Nat.le_refl _)
      rw [str_size] at hle
      unfold maxLen; omega
    · rw [List.length_map, flat_length]; exact (Nat.mul_one _).symm
    · intro i u hu
      rw [Nat.zero_add]
      simpa using hu
    · intro i a u ha hu
      have hil : i < (splitB b l).length := by
        have := (List.getElem?_eq_some_iff.1 hu).1
        rwa [List.length_map] at this
      have h1 := flat_getc (splitB b l) i 0 hil Nat.zero_lt_one
      rw [show i * Cel.n (List UInt8) + 0 = i from Nat.mul_one i] at h1
      rw [h1] at ha
      rw [List.getElem?_map, List.getElem?_eq_getElem hil] at hu
      cases ha; cases hu
      exact .v _
  · exact ⟨rfl, rfl, rfl, by show w.heap.size ≤ (w.heap.push _).size; rw [Array.size_push]; omega, fun k hk => heap_alloc_old w _ hk⟩
  · intro k a hk
    have : k < w.heap.size := hc.imm_lt hk
    exact (if_neg (by omega)).trans hk
  · intro k a hk hn
    by_cases e : k = w.heap.size
    · subst e
      refine ⟨Nat.le_refl _, 9, (0, 0), ?_⟩
      have hk := (if_pos rfl).symm.trans hk
      cases hk
      show (w.heap.push _)[w.heap.size]? = _
      rw [Array.getElem?_push_size]; rfl
    · have hk := (if_neg e).symm.trans hk
      rw [hn] at hk; cases hk
end Go.Proofs.YtcomjodfkcnjhaaGreatDoor

/- How a state's text is read, plainly. -/

namespace Go.Proofs.YtcomjodfkcnjhaaGreatDoor
open Go.Ax
open Cel (c)
set_option linter.unusedSimpArgs false
set_option linter.unusedVariables false

abbrev W5 : List (List UInt8) := [wS, wM, wC, wV, wG]
abbrev W3 : List (List UInt8) := [wN, wM, wG]
abbrev W2 : List (List UInt8) := [wL, wE]
def putL (o : List Int) (ms : List Nat) (w : Int) : List Int := ms.foldl (fun o i => o.set i w) o
theorem putL_len (w : Int) : ∀ (ms : List Nat) (o : List Int), (putL o ms w).length = o.length
  | [], _ => rfl
  | i :: ms, o => by rw [putL, List.foldl_cons, ← putL, putL_len w ms, List.length_set]
theorem putL_get (w : Int) : ∀ (ms : List Nat) (o : List Int) (i : Nat), i < o.length → (putL o ms w).getD i 0 = if i ∈ ms then w else o.getD i 0
  | [], o, i, _ => by simp [putL]
  | j :: ms, o, i, h => by
    rw [putL, List.foldl_cons, ← putL, putL_get w ms _ i (by rw [List.length_set]; exact h)]
    by_cases h1 : i ∈ ms
    · rw [if_pos h1, if_pos (List.mem_cons_of_mem _ h1)]
    · rw [if_neg h1]
      by_cases h2 : i = j
      · subst h2
        rw [if_pos (List.mem_cons_self ..), List.getD_eq_getElem?_getD, List.getElem?_set_self h, Option.getD_some]
      · rw [if_neg (by rw [List.mem_cons]; exact fun h => h.elim h2 h1), List.getD_eq_getElem?_getD, List.getElem?_set_ne (fun e => h2 e.symm), ← List.getD_eq_getElem?_getD]
def putT (s : Stt) (b : BitVec 64) (w e : Int) : Stt := { s with own := putL s.own (memN b) w, epo := putL s.epo (memN b) e }
def hdS (s : Stt) (n : List Int) : Stt := { s with id := n.getD 0 0, master := n.getD 1 0, cur := n.getD 2 0, vote := n.getD 3 0, cfg := n.getD 4 0 }
def knS (n : List Int) : Kn := ⟨n.getD 0 0, n.getD 1 0, n.getD 2 0⟩
def addK (s : Stt) (k : Kn) : Stt := { s with known := s.known ++ [k] }
def fieldsF (ws : List (List UInt8)) (l : List UInt8) : Option (List Int) := fieldsB ws (splitB 32 l)
def stepP (first : Bool) (s : Stt) (l : List UInt8) : Option Stt :=
  if first then (fieldsF W5 l).map (hdS s)
  else if (Lib.cut l [32]).1 = wN then (fieldsF W3 l).map fun n => addK s (knS n)
  else if (Lib.cut l [32]).1 = wL then
    if (Lib.cut l [32, 58, 32]).2.2 && (fieldsF W2 (Lib.cut l [32, 58, 32]).1).isSome && (parseO (Lib.cut l [32, 58, 32]).2.1).isSome then
      some (putT s (parseS (Lib.cut l [32, 58, 32]).2.1) (((fieldsF W2 (Lib.cut l [32, 58, 32]).1).getD []).getD 0 0) (((fieldsF W2 (Lib.cut l [32, 58, 32]).1).getD []).getD 1 0))
    else none
  else none
def readL : Bool → Stt → List (List UInt8) → Option Stt
  | _, s, [] => some s
  | f, s, l :: ls => (stepP f s l).bind fun s' => readL false s' ls
def zS : Stt := ⟨0, 0, 0, 0, 0, [], List.replicate 64 0, List.replicate 64 0⟩
def rawP (t : List UInt8) : Option Stt := readL true zS (splitB 10 (Lib.trimSuffix t [10]))
def parseP (t : List UInt8) : Option Stt := match rawP t with
  | none => none
  | some s => if rightB s = true ∧ docT s = t then some s else none
theorem zS_ok : zS.Ok := ⟨rfl, rfl⟩
theorem step_ok {f : Bool} {s s' : Stt} {l : List UInt8} (h : s.Ok) (hs : stepP f s l = some s') : s'.Ok := by
  rw [stepP] at hs
  split at hs
  · obtain ⟨n, _, rfl⟩ := Option.map_eq_some_iff.1 hs
    exact ⟨h.o, h.e⟩
  · split at hs
    · obtain ⟨n, _, rfl⟩ := Option.map_eq_some_iff.1 hs
      exact ⟨h.o, h.e⟩
    · split at hs
      · split at hs
        · cases hs
          exact ⟨(putL_len _ _ _).trans h.o, (putL_len _ _ _).trans h.e⟩
        · cases hs
      · cases hs
theorem split_mem (b : UInt8) : ∀ (l p : List UInt8), p ∈ splitB b l → p.length ≤ l.length
  | [], p, h => by
    rw [splitB, List.mem_singleton] at h
    rw [h]; exact Nat.le_refl _
  | x :: r, p, h => by
    rw [splitB] at h
    split at h
    · rcases List.mem_cons.1 h with rfl | h
      · exact Nat.zero_le _
      · have := split_mem b r p h; rw [List.length_cons]; omega
    · split at h
      · rename_i q t e
        rcases List.mem_cons.1 h with rfl | h
        · have := split_mem b r q (by rw [e]; exact List.mem_cons_self ..)
          rw [List.length_cons, List.length_cons]; omega
        · have := split_mem b r p (by rw [e]; exact List.mem_cons_of_mem _ h)
          rw [List.length_cons]; omega
      · rw [List.mem_singleton] at h
        rw [h]; simp
theorem splitP_len (b : UInt8) : ∀ (l : List UInt8), (splitB b l).length ≤ l.length + 1
  | [] => Nat.le_refl _
  | x :: r => by
    have ih := splitP_len b r
    rw [splitB]
    split
    · rw [List.length_cons, List.length_cons]; omega
    · split
      · rename_i q t e
        rw [e] at ih
        simp only [List.length_cons] at ih ⊢; omega
      · simp
theorem cut_le (l m : List UInt8) : (Lib.cut l m).1.length ≤ l.length ∧ (Lib.cut l m).2.1.length ≤ l.length := by
  rw [Lib.cut]
  split
  · simp only [List.length_take, List.length_drop]; omega
  · exact ⟨Nat.le_refl _, Nat.zero_le _⟩
theorem trim_le (l m : List UInt8) : (Lib.trimSuffix l m).length ≤ l.length := by
  rw [Lib.trimSuffix]
  split
  · rw [List.length_take]; omega
  · exact Nat.le_refl _
end Go.Proofs.YtcomjodfkcnjhaaGreatDoor

/- The walk of fields. -/

namespace Go.Proofs.YtcomjodfkcnjhaaGreatDoor
open Go.Ax
open Cel (c)
theorem qP21 {p : Prop} (h : p := by (conv => lhs; whnf); all_goals exact rfl) : p := h
theorem qP22 {p : Prop} (h : p := by first | exact IsSl.vec | exact IsSl.sl | exact IsSl.slc | exact IsSl.nil | with_reducible assumption) : p := h
theorem qP23 {p : Prop} (h : p := by first | exact AStepD.neq rfl rfl rfl | exact AStepD.str_neq rfl rfl rfl | exact (AStepD.ptr_nil tok (.inl ⟨_, _, rfl⟩) rfl rfl rfl).2 rfl | exact (AStepD.nil_nil tok rfl rfl rfl rfl).2 rfl | exact (AStepD.bool_eq tok rfl rfl rfl rfl).2 rfl | exact (AStepD.ptr_same tok rfl rfl rfl rfl rfl).2 rfl | exact (AStepD.iface_nil tok rfl rfl rfl rfl).2 rfl | exact (AStepD.nilIface_nil tok rfl rfl rfl rfl).2 rfl) : p := h
theorem qP24 {p : Prop} (h : p := by repeat' (first | exact Keep.refl _ | apply Keep.new | apply Keep.set | apply Keep.del | (first | omega | (simp only [za, zb, zc]; omega)))) : p := h
theorem qP25 {p : Prop} (h : p := by (conv => lhs; whnf); all_goals first | exact rfl | (simp; done) | (simp; omega)) : p := h
theorem qP26 {p : Prop} (h : p := by first | exact rfl | exact (Int.toNat_of_nonneg (by omega)).symm) : p := h
theorem qP27 {p : Prop} (h : p := by first | omega | (simp; done) | (simp; omega) | (simp only [over, List.length_append, List.length_take, List.length_drop, *]; omega) | (simp_all; done) | (simp_all; omega)) : p := h
theorem qP28 {p : Prop} (h : p := by first | (simp only [Nat.zero_add, Nat.zero_mul, Nat.sub_zero, Nat.add_zero]; exact rfl) | exact rfl) : p := h
theorem qP29 {p : Prop} (h : p := by first | omega | (simp only [za, zb, zc, zd]; omega)) : p := h
theorem qP210 {p : Prop} (h : p := by first | with_reducible assumption | exact rfl) : p := h
theorem qP211 {p : Prop} (h : p := by exact AStepD.extract rfl rfl rfl) : p := h
theorem qP212 {p : Prop} (h : p := by intro h; first | (rw [h]; done) | (rw [h]; rfl) | (simp [h]; done) | (simp_all; done) | exact guard_true h) : p := h
theorem qP213 {p : Prop} (h : p := by first | with_reducible assumption | exact Cel.one _ | exact flat_ones _ | exact ones_nil | (simp only [List.forall_mem_cons, List.not_mem_nil, false_implies, implies_true, and_true, one_v, one_ptr, one_ip, one_sl, one_slc, one_vec, one_map, one_func, one_iface, Value.oneCell', *]; done) | (simp [AV.one, Value.oneCell', *]; done)) : p := h
theorem qP214 {p : Prop} (h : p := by exact AStepD.assign' rfl qP21) : p := h
theorem qP215 {p : Prop} (h : p := by exact AStepD.move' rfl qP21) : p := h
theorem qP216 {p : Prop} (h : p := by first | exact AStepD.len_str tok rfl rfl rfl rfl | exact AStepD.len_sl tok rfl qP21 qP22 rfl rfl | exact AStepD.len_arr tok rfl rfl rfl) : p := h
theorem qP217 {p : Prop} (h : p := by repeat' (first | exact SubT.nil _ | refine SubT.cons_eq qP25 ?_)) : p := h
theorem qP218 {p : Prop} (h : p := by first | exact AStepD.indexAddr_flat tok rfl rfl rfl rfl rfl rfl rfl (show _ = 1 from rfl) rfl qP26 qP27 | exact AStepD.indexAddr_vec' tok rfl rfl rfl rfl rfl rfl (show _ = 1 from rfl) qP26 qP27 | exact AStepD.indexAddr_sl' tok rfl rfl rfl rfl rfl rfl (show _ = 1 from rfl) qP26 qP27 qP28 | exact AStepD.indexAddr_arr' tok rfl rfl rfl rfl rfl rfl (show _ = 1 from rfl) qP26 qP27 qP28) : p := h
theorem qP219 {p : Prop} (h : p := by first | with_reducible assumption | (simp (disch := (first | omega | (exact Lst.lab_ne (by with_reducible assumption) qP29) | (exact Lst.lab_new (by with_reducible assumption) qP29) | (refine id ?_; simp only [za, zb, zc, zd]; done) | (simp only [za, zb, zc, zd]; omega))) only [z1, z2, z3, z4, z5, z6, z7, z8, z9, ne_eq, *]; done) | (simp (disch := (first | omega | (exact Lst.lab_ne (by with_reducible assumption) qP29) | (exact Lst.lab_new (by with_reducible assumption) qP29) | (refine id ?_; simp only [za, zb, zc, zd]; done) | (simp only [za, zb, zc, zd]; omega))) only [z1, z2, z3, z4, z5, z6, z7, z8, z9, ne_eq, *]; exact rfl)) : p := h
theorem qP220 {p : Prop} (h : p := by exact SD.s rfl rfl rfl qP211) : p := h
theorem qP221 {p : Prop} (h : p := by first | exact AStepD.pick_true' rfl rfl qP21 | exact AStepD.pick_false' rfl rfl qP21 | exact AStepD.and rfl _ _ _ rfl rfl qP212 rfl | exact AStepD.and' rfl _ _ rfl rfl rfl | exact AStepD.or rfl _ _ _ rfl rfl rfl qP212 | exact AStepD.or' rfl _ _ rfl rfl rfl) : p := h
theorem qP222 {p : Prop} (h : p := by exact SD.s rfl rfl rfl qP214) : p := h
theorem qP223 {p : Prop} (h : p := by exact SD.s rfl rfl rfl qP215) : p := h
theorem qP224 {p : Prop} (h : p := by exact SD.s rfl rfl rfl qP216) : p := h
theorem qP225 {p : Prop} (h : p := by first | exact GW.yes rfl rfl rfl rfl rfl rfl rfl qP215 | exact GW.no rfl rfl rfl rfl rfl rfl rfl | exact GW.none rfl rfl rfl rfl rfl | exact GW.may rfl rfl rfl rfl rfl rfl (fun hb => by (repeat (first | apply UW.yes rfl (gpf hb) | apply UW.no)); exact UW.nil qP215) | exact GW.may2 rfl rfl rfl rfl rfl rfl (fun _ hb => by (repeat (first | apply UW.yes rfl (gpf hb) | apply UW.no)); exact UW.nil qP215)) : p := h
set_option linter.unusedSimpArgs false
set_option linter.unusedVariables false
set_option maxRecDepth 20000
open Cel (c)

theorem atoiV_boundsP (l : List UInt8) : -9223372036854775808 ≤ atoiV l ∧ atoiV l ≤ 9223372036854775807 := by
  rw [atoiV]
  rcases h : Lib.atoiAll l with v | _ | _
  · exact Lib.atoiAll_bounds h
  · simp
  · skip
    simp only [Lib.atoiSat]
    split <;> simp
theorem fields_calls (H : AHeap) (l : List UInt8) (ws : List (List UInt8)) (hl : l.length ≤ 1000000) (hw : ws.length ≤ 10) : ACalls Tryz.prog 76 [strA l, vecA ws] H (fun r H' => r = .tup [vecA ((fieldsF ws l).getD []), .v (.bool (fieldsF ws l).isSome)] ∧ H' = H) := by
  refine ACalls.quiet_keep ?_ (.tup (by simp only [List.forall_mem_cons]; exact ⟨vecA_plain _, .v _, fun _ h => absurd h List.not_mem_nil⟩))
  obtain ⟨ps, hps⟩ : ∃ ps, ps = splitB 32 l := ⟨_, rfl⟩
  have hpl := splitP_len 32 l
  have hpm := split_mem 32 l
  have hF : fieldsF ws l = fieldsB ws ps := by rw [fieldsF, hps]
  rw [← hps] at hpl hpm
  rw [hF]
  refine ACalls.of_body tok Tryz.func76 rfl Tryz.ntmps76 (Nat.le_of_ble_eq_true rfl) (fun base => ?_)
  refine rg fun K hK => ?_
  refine st qP222 <| st qP222 <| nt (hK _ _ ?_)
  clear hK K
  refine rg fun K hK => ?_
  refine st qP223 <| st (by exact SD.s rfl rfl rfl (by exact AStepD.callf rfl en44 rfl (splitS_calls _ l 32 hl))) <| st qP222 <| nt (hK _ _ ?_)
  clear hK K
  rw [← hps]
  refine AW.seq_k (fun K1 hK1 => ?_)
  refine rg fun K hK => ?_
  refine st qP223 <| st qP224 <| st qP223 <| st qP224 <| st (by exact SD.s rfl rfl rfl (by exact AStepD.mul (r := ((2 * ws.length : Nat) : Int)) rfl rfl rfl (by rw [show (2 : Int) * (ws.length : Nat) = ((2 * ws.length : Nat) : Int) by omega]; exact IntWalk.i64_in _ (by omega)))) <| st (by exact SD.s rfl rfl rfl qP23) <| nt (hK _ _ ?_)
  clear hK K
  refine AW.cond _ rfl (fun hc => ?_) (fun hc => ?_)
  · have hc := of_decide_eq_true hc
    have hno : fieldsB ws ps = none := by
      cases h : fieldsB ws ps with
      | none => rfl
      | some ns => exact absurd (congrArg (fun n : Nat => (n : Int)) (fields_len h).1) hc
    rw [hno]
    refine rg fun K hK => ?_
    refine st qP222 <| st qP222 <| nt (hK _ _ ?_)
    clear hK K
    exact AW.ret (RetQ.sub (.inr rfl) (retA_tmp rfl qP21 (retA_tmp rfl qP21 retA_nil)) (SubV.tup2 SubV.nil_vecA (.refl _)) ⟨rfl, qP24⟩)
  have hpw : ps.length = 2 * ws.length := by
    have := of_decide_eq_false hc
    omega
  clear hc
  refine AW.skip ?_
  refine hK1 _ _ ?_; try clear hK1 K1
  refine rg fun K hK => ?_
  refine st qP222 <| nt (hK _ _ ?_)
  clear hK K
  refine AW.seq_k (fun K2 hK2 => ?_)
  refine rg fun K hK => ?_
  refine st qP223 <| st qP224 <| st qP223 <| nt (hK _ _ ?_)
  clear hK K
  refine AW.block ?_
  refine AW.loop_at (ι := Nat × AV) (fun x => [(22, .v (.int .i64 (x.1 : Nat))), (21, .v (.int .i64 (ws.length : Nat))), (20, vecA ws), (7, x.2), (6, vecA ps)])
    (fun x H' => x.1 ≤ ws.length ∧ ∃ ns : List Int, ns.length = x.1 ∧ fieldsB ws ps = (fieldsB (ws.drop x.1) (ps.drop (2 * x.1))).map (ns ++ ·) ∧ Lst 3 H.next H' x.2 ns ∧ Keep H H') (fun x => ws.length - x.1) (0, .v (.slice none 0 0)) qP217
    ⟨Nat.zero_le _, [], rfl, by simp, .nil, qP24⟩ ?_
  rintro ⟨k, yO⟩ H2 ⟨hk, ns, hnl, hinv, hyO, hkp⟩
  dsimp only at hk hnl hinv hyO ⊢
  refine rg fun K hK => ?_
  refine st (by exact SD.s rfl rfl rfl (by exact AStepD.lss rfl rfl rfl)) <| nt (hK _ _ ?_)
  clear hK K
  refine AW.seq_k (fun K3 hK3 => ?_)
  refine AW.cond _ rfl (fun hc => ?_) (fun hc => ?_)
  · (try simp only [Bool.or_eq_true, Bool.and_eq_true, Bool.or_eq_false_iff, Bool.and_eq_false_iff, Bool.not_eq_true', Bool.not_eq_false', decide_eq_true_eq, decide_eq_false_iff_not, Int.not_lt, Int.not_le] at hc)
    have hkl : k < ws.length := by omega
    have h0 : 2 * k < ps.length := by omega
    have h1 : 2 * k + 1 < ps.length := by omega
    rw [List.drop_eq_getElem_cons hkl, List.drop_eq_getElem_cons h0, List.drop_eq_getElem_cons h1, fieldsB] at hinv
    have hql := hpm ps[2 * k + 1] (List.getElem_mem h1)
    obtain ⟨w, hwe⟩ : ∃ w, w = ws[k] := ⟨_, rfl⟩
    obtain ⟨p, hpe⟩ : ∃ p, p = ps[2 * k] := ⟨_, rfl⟩
    obtain ⟨q, hqe⟩ : ∃ q, q = ps[2 * k + 1] := ⟨_, rfl⟩
    rw [← hwe, ← hpe, ← hqe] at hinv
    rw [← hqe] at hql
    have hbd := atoiV_boundsP q
    refine AW.skip ?_
    refine hK3 _ _ ?_; try clear hK3 K3
    refine AW.seq_k (fun K4 hK4 => ?_)
    refine AW.block ?_
    refine rg fun K hK => ?_
    refine st qP223 <| st (by exact SD.s rfl rfl rfl qP218) <| st (by exact SD.s rfl rfl rfl (by first | exact AStepD.load_one tok rfl rfl rfl rfl qP219 rfl qP210 | exact AStepD.load_one_ip tok rfl rfl rfl rfl rfl qP210)) <| st qP222 <| st qP222 <| nt (hK _ _ ?_)
    clear hK K
    rw [← hwe]
    refine rg fun K hK => ?_
    refine st qP223 <| st qP223 <| st (by exact SD.s rfl rfl rfl (by exact AStepD.mul (r := ((2 * k : Nat) : Int)) rfl rfl rfl (by rw [show (2 : Int) * (k : Nat) = ((2 * k : Nat) : Int) by omega]; exact IntWalk.i64_in _ (by omega)))) <| st (by exact SD.s rfl rfl rfl (by exact AStepD.add (r := ((2 * k + 1 : Nat) : Int)) rfl rfl rfl (IntWalk.i64_in _ (by omega)))) <| st (by exact SD.s rfl rfl rfl (by exact AStepD.indexAddr_flat (i := 2 * k + 1) tok rfl rfl rfl rfl rfl rfl rfl rfl rfl rfl h1)) <| st (by exact SD.s rfl rfl rfl (by exact AStepD.load_one_ip tok rfl rfl rfl rfl rfl (show _ = some (strA q) by rw [hqe]; rfl))) <| st (by exact SD.s rfl rfl rfl (by exact AStepD.callf rfl en103 rfl (atoi_calls _ q (by omega)))) <| st qP223 <| st qP220 <| st qP220 <| st qP222 <| st qP222 <| nt (hK _ _ ?_)
    clear hK K
    refine AW.seq_k (fun K5 hK5 => ?_)
    refine rg fun K hK => ?_
    refine st qP223 <| st qP223 <| st (by exact SD.s rfl rfl rfl (by exact AStepD.mul (r := ((2 * k : Nat) : Int)) rfl rfl rfl (by rw [show (2 : Int) * (k : Nat) = ((2 * k : Nat) : Int) by omega]; exact IntWalk.i64_in _ (by omega)))) <| st (by exact SD.s rfl rfl rfl (by exact AStepD.indexAddr_flat (i := 2 * k) tok rfl rfl rfl rfl rfl rfl rfl rfl rfl rfl h0)) <| st (by exact SD.s rfl rfl rfl (by exact AStepD.load_one_ip tok rfl rfl rfl rfl rfl (show _ = some (strA p) by rw [hpe]; rfl))) <| st qP223 <| st (by exact SD.s rfl rfl rfl (by exact AStepD.bool (AStepD.str_neq rfl rfl rfl) (c := decide (p ≠ w)) (by rw [str_list, str_list]))) <| st qP223 <| st (GW.p (l := [11]) qP225) <| st (GW.p (l := [45]) (by first | exact GW.yes rfl rfl rfl rfl rfl rfl rfl (by exact err_neq rfl rfl rfl rfl) | exact GW.no rfl rfl rfl rfl rfl rfl rfl | exact GW.none rfl rfl rfl rfl rfl | exact GW.may rfl rfl rfl rfl rfl rfl (fun hb => by (repeat (first | apply UW.yes rfl (gpf hb) | apply UW.no)); exact UW.nil (by exact err_neq rfl rfl rfl rfl)) | exact GW.may2 rfl rfl rfl rfl rfl rfl (fun _ hb => by (repeat (first | apply UW.yes rfl (gpf hb) | apply UW.no)); exact UW.nil (by exact err_neq rfl rfl rfl rfl)))) <| st (by exact SD.s rfl rfl rfl qP221) <| nt (hK _ _ ?_)
    clear hK K
    refine AW.cond _ rfl (fun hc => ?_) (fun hc => ?_)
    · have hno : fieldsB ws ps = none := by
        rw [hinv, if_neg]; · rfl
        rintro ⟨rfl, e⟩
        rw [e] at hc
        simp at hc
      rw [hno]
      refine rg fun K hK => ?_
      refine st qP222 <| st qP222 <| nt (hK _ _ ?_)
      clear hK K
      exact AW.ret (RetQ.sub (.inr rfl) (retA_tmp rfl qP21 (retA_tmp rfl qP21 retA_nil)) (SubV.tup2 SubV.nil_vecA (.refl _)) ⟨rfl, (by repeat' (first | exact Keep.refl _ | with_reducible assumption | apply Keep.new | apply Keep.set | apply Keep.del | (first | omega | (simp only [za, zb, zc]; omega))))⟩)
    · have hc2 : p = w ∧ atoiB q = false := by
        simp only [Bool.or_eq_false_iff, decide_eq_false_iff_not, ne_eq, Decidable.not_not] at hc
        exact hc
      rw [if_pos hc2, Option.map_map] at hinv
      refine AW.skip ?_
      refine hK5 _ _ ?_; try clear hK5 K5
      refine AW.region ?_
      refine st qP223 <| st qP223 <| st (by exact SD.s rfl rfl rfl (by exact AStepD.vec_flat (l := [atoiV q]) (AStepD.buildSlice1 tok rfl rfl rfl rfl (show _ = 1 from rfl) qP21 qP21 rfl (by decide) qP213) rfl rfl rfl)) <| st (by exact SD.s rfl rfl rfl (by exact AStepD.append_lst (bk := 64) (l := ns) (y := yO) (b := H.next) (m := (ns ++ [atoiV q]).length) tok rfl rfl hyO rfl rfl rfl rfl rfl rfl (show _ = 1 from rfl) rfl rfl Ax.Src.vec rfl Nat.zero_lt_one (flat_ones _) (by simp; omega) (by simp; omega) (by simp) (flat_append ns [atoiV q]).symm)) <| st qP222 <| AL.nil ?_
      refine hK4 _ _ ?_; try clear hK4 K4
      refine AW.region ?_
      refine st (by exact SD.s rfl rfl rfl (by first | exact AStepD.add rfl rfl rfl (by first | exact IntWalk.i64_in _ (by omega) | exact IntWalk.i64_in _ (by simp only [Bool.or_eq_true, Bool.and_eq_true, Bool.or_eq_false_iff, Bool.and_eq_false_iff, Bool.not_eq_true', Bool.not_eq_false', decide_eq_true_eq, decide_eq_false_iff_not, Int.not_lt, Int.not_le, beq_iff_eq] at *; omega) | exact rfl) | exact AStepD.str_add rfl rfl rfl (by omega))) <| st qP223 <| AL.nil ?_
      refine ⟨(k + 1, .sl H2.next 0 (ns ++ [atoiV q]).length 1), by show ws.length - (k + 1) < ws.length - k; omega, qP217, hkl, ns ++ [atoiV q], by rw [List.length_append, hnl]; rfl, ?_, ?_, ?_⟩
      · rw [hinv]
        congr 1
        funext m
        simp
      · exact hyO.app hkp.1 (by simp) rfl
      · refine ⟨by simp only [zd, zc]; have := hkp.1; omega, fun z hz => ?_⟩
        have hn := hkp.1
        rw [z9 _ (hyO.lab_ne hz), AHeap.get_new_ne _ _ (by omega)]; exact hkp.2 z hz
  · (try simp only [Bool.or_eq_true, Bool.and_eq_true, Bool.or_eq_false_iff, Bool.and_eq_false_iff, Bool.not_eq_true', Bool.not_eq_false', decide_eq_true_eq, decide_eq_false_iff_not, Int.not_lt, Int.not_le] at hc)
    obtain rfl : k = ws.length := by omega
    rw [List.drop_length, List.drop_of_length_le (by omega : ps.length ≤ 2 * ws.length)] at hinv
    have hyes : fieldsB ws ps = some ns := by rw [hinv, fieldsB]; simp
    refine AW.exit ?_
    refine hK2 _ _ ?_; try clear hK2 K2
    refine AW.vecL (s := 7) hyO rfl ?_
    refine rg fun K hK => ?_
    refine st qP223 <| st qP222 <| st qP222 <| nt (hK _ _ ?_)
    clear hK K
    refine AW.ret (RetQ.mk (.inr rfl) (retA_tmp rfl qP21 (retA_tmp rfl qP21 retA_nil)) ⟨?_, by rw [AHeap.delv_next]; exact hkp.1, fun z hz => by rw [AHeap.delv_get _ (hyO.lab_ne hz)]; exact hkp.2 z hz⟩)
    rw [hyes]; rfl
end Go.Proofs.YtcomjodfkcnjhaaGreatDoor

/- The walk of read. -/

namespace Go.Proofs.YtcomjodfkcnjhaaGreatDoor
open Go.Ax
open Cel (c)
theorem qP31 {p : Prop} (h : p := by first | exact AStepD.eql rfl rfl rfl | exact AStepD.str_eql rfl rfl rfl | exact (AStepD.ptr_nil tok (.inl ⟨_, _, rfl⟩) rfl rfl rfl).1 rfl | exact (AStepD.nil_nil tok rfl rfl rfl rfl).1 rfl | exact (AStepD.bool_eq tok rfl rfl rfl rfl).1 rfl | exact (AStepD.ptr_same tok rfl rfl rfl rfl rfl).1 rfl | exact (AStepD.iface_nil tok rfl rfl rfl rfl).1 rfl | exact (AStepD.nilIface_nil tok rfl rfl rfl rfl).1 rfl) : p := h
theorem qP32 {p : Prop} (h : p := by simp only [List.flatMap_cons, List.flatMap_nil, cells_v, cells_any, cells_ptr, cells_ip, cells_sl, cells_vec, cells_map, cells_func, cells_agg, cells_iface, List.cons_append, List.nil_append, List.append_nil]; all_goals exact rfl) : p := h
theorem qP33 {p : Prop} (h : p := by simp only [List.getD_cons_zero, List.getD_cons_succ]; all_goals apply Eq.refl) : p := h
theorem qP34 {p : Prop} (h : p := by first | exact AStepD.load_one tok rfl rfl rfl rfl qP219 rfl qP210 | exact AStepD.load_one_ip tok rfl rfl rfl rfl rfl qP210) : p := h
theorem qP35 {p : Prop} (h : p := by first | exact AStepD.nilCheck_ptr rfl rfl | exact AStepD.nilCheck_ip rfl rfl | exact AStepD.nilCheck_func rfl rfl) : p := h
theorem qP36 {p : Prop} (h : p := by simp only [Nat.reduceAdd]; exact rfl) : p := h
theorem qP37 {p : Prop} (h : p := by simp [AV.one, Value.oneCell']) : p := h
theorem qP38 {p : Prop} (h : p := by simp only [frameAt, putA]; all_goals exact rfl) : p := h
theorem qP39 {p : Prop} (h : p := by simp only [List.length_cons, List.length_nil, Nat.zero_add, Nat.reduceAdd, List.getD_cons_zero, List.getD_cons_succ]; all_goals apply Eq.refl) : p := h
theorem qP310 {p : Prop} (h : p := by exact (fun hb => by (repeat (first | apply UW.yes rfl (gpf hb) | apply UW.no)); exact UW.nil qP215)) : p := h
theorem qP311 {p : Prop} (h : p := by exact (fun _ hb => by (repeat (first | apply UW.yes rfl (gpf hb) | apply UW.no)); exact UW.nil qP215)) : p := h
theorem qP312 {p : Prop} (h : p := by exact SD.s rfl rfl rfl qP221) : p := h
theorem qP313 {p : Prop} (h : p := by first | exact AStepD.build_seq tok rfl rfl rfl (by decide) (map_p qP21 (map_p qP21 (map_p qP21 map_n))) (show _ = 3 from rfl) rfl qP32 qP213 | exact AStepD.build_arr_seq tok rfl rfl rfl rfl (map_p qP21 (map_p qP21 (map_p qP21 map_n))) (show _ = 3 from rfl) rfl qP32 qP213 | exact AStepD.build tok rfl rfl rfl (by decide) rfl qP213) : p := h
theorem qP314 {p : Prop} (h : p := by first | exact Nat.zero_add 0 | exact (show _ + 0 = _ from qP36) | exact (show _ + 0 = _ + 0 from rfl) | exact rfl) : p := h
theorem qP315 {p : Prop} (h : p := by first | exact AStepD.fieldAddr' tok rfl rfl rfl rfl rfl rfl rfl (by first | exact Nat.zero_add 1 | exact (show _ + 1 = _ from qP36) | exact (show _ + 1 = _ + 1 from rfl) | exact rfl) | exact AStepD.fieldAddr_ip' tok rfl rfl rfl rfl rfl rfl rfl (show List.drop 1 _ = _ from rfl)) : p := h
theorem qP316 {p : Prop} (h : p := by first | exact AStepD.fieldAddr' tok rfl rfl rfl rfl rfl rfl rfl (by first | exact Nat.zero_add 2 | exact (show _ + 2 = _ from qP36) | exact (show _ + 2 = _ + 2 from rfl) | exact rfl) | exact AStepD.fieldAddr_ip' tok rfl rfl rfl rfl rfl rfl rfl (show List.drop 2 _ = _ from rfl)) : p := h
theorem qP317 {p : Prop} (h : p := by first | exact Nat.zero_add 5 | exact (show _ + 5 = _ from qP36) | exact (show _ + 5 = _ + 5 from rfl) | exact rfl) : p := h
theorem qP318 {p : Prop} (h : p := by first | exact GW.yes rfl rfl rfl rfl rfl rfl rfl qP215 | exact GW.no rfl rfl rfl rfl rfl rfl rfl | exact GW.none rfl rfl rfl rfl rfl | exact GW.may rfl rfl rfl rfl rfl rfl qP310 | exact GW.may2 rfl rfl rfl rfl rfl rfl qP311) : p := h
theorem qP319 {p : Prop} (h : p := by first | exact Nat.zero_add 6 | exact (show _ + 6 = _ from qP36) | exact (show _ + 6 = _ + 6 from rfl) | exact rfl) : p := h
theorem qP320 {p : Prop} (h : p := by first | exact Nat.zero_add 64 | exact (show _ + 64 = _ from qP36) | exact (show _ + 64 = _ + 64 from rfl) | exact rfl) : p := h
theorem qP321 {p : Prop} (h : p := by first | exact AStepD.fieldAddr' tok rfl rfl rfl rfl rfl rfl rfl qP314 | exact AStepD.fieldAddr_ip' tok rfl rfl rfl rfl rfl rfl rfl List.drop_zero) : p := h
theorem qP322 {p : Prop} (h : p := by first | exact AStepD.fieldAddr' tok rfl rfl rfl rfl rfl rfl rfl qP317 | exact AStepD.fieldAddr_ip' tok rfl rfl rfl rfl rfl rfl rfl (show List.drop 5 _ = _ from rfl)) : p := h
theorem qP323 {p : Prop} (h : p := by first | exact AStepD.fieldAddr' tok rfl rfl rfl rfl rfl rfl rfl qP319 | exact AStepD.fieldAddr_ip' tok rfl rfl rfl rfl rfl rfl rfl (show List.drop 6 _ = _ from rfl)) : p := h
theorem qP324 {p : Prop} (h : p := by first | exact AStepD.fieldAddr' tok rfl rfl rfl rfl rfl rfl rfl qP320 | exact AStepD.fieldAddr_ip' tok rfl rfl rfl rfl rfl rfl rfl (show List.drop 64 _ = _ from rfl)) : p := h
set_option linter.unusedSimpArgs false
set_option linter.unusedVariables false
set_option maxRecDepth 20000
open Cel (c)

structure StAt (H : AHeap) (S : Nat) (y : AV) (s : Stt) : Prop where
  lt : S < H.next
  get : H.get S = some (.cells 34 (s.cs y))
  kn : Lst 64 (S + 1) H y s.known
theorem StAt.put {H : AHeap} {S : Nat} {y : AV} {s s' : Stt} (h : StAt H S y s) (hk : s'.known = s.known) {H' : AHeap} (hn : H'.next = H.next) (hg : H'.get S = some (.cells 34 (s'.cs y))) (hq : ∀ q, q ≠ S → H'.get q = H.get q) : StAt H' S y s' ∧ BSt S H y H' y :=
  ⟨⟨by rw [hn]; exact h.lt, hg, by rw [hk]; exact h.kn.keep (fun D hD _ _ => hq D (by omega)) (by rw [hn]; exact Nat.le_refl _)⟩, ⟨by rw [hn]; exact Nat.le_refl _, fun q _ h _ => hq q h, fun _ h => .inl h⟩⟩
theorem StAt.same {H : AHeap} {S : Nat} {y : AV} {s : Stt} (h : StAt H S y s) : StAt H S y s ∧ BSt S H y H y := ⟨h, .refl ..⟩
theorem putL_snoc (o : List Int) (ms : List Nat) (i : Nat) (w : Int) : putL o (ms ++ [i]) w = (putL o ms w).set i w := by
  rw [putL, List.foldl_append]; rfl
theorem over_own {s : Stt} (h : s.Ok) {y : AV} {i : Nat} (hi : i < 64) (v : Int) : Ax.over (s.cs y) (6 + i * 1) [.v (.int .i64 v)] = ({ s with own := s.own.set i v } : Stt).cs y := by
  have h1 := over_int s.own i (by rw [h.o]; exact hi) v
  have hf := h.fo
  simp only [Ax.over, List.length_singleton] at h1 ⊢
  rw [show 6 + i * 1 = (i * 1) + 6 by omega, show i * 1 + 6 + 1 = (i * 1 + 1) + 6 by omega]
  show [_, _, _, _, _, _] ++ s.tab.take (i * 1) ++ [_] ++ s.tab.drop (i * 1 + 1) = [_, _, _, _, _, _] ++ (flat (s.own.set i v) ++ flat s.epo)
  rw [← h1, Stt.tab, List.take_append_of_le_length (by omega), List.drop_append_of_le_length (by omega)]
  simp only [List.append_assoc]
theorem over_epo {s : Stt} (h : s.Ok) {y : AV} {i : Nat} (hi : i < 64) (v : Int) : Ax.over (s.cs y) (70 + i * 1) [.v (.int .i64 v)] = ({ s with epo := s.epo.set i v } : Stt).cs y := by
  have h1 := over_int s.epo i (by rw [h.e]; exact hi) v
  have hf := h.fo
  simp only [Ax.over, List.length_singleton] at h1 ⊢
  rw [show 70 + i * 1 = (64 + i * 1) + 6 by omega, show 64 + i * 1 + 6 + 1 = (64 + (i * 1 + 1)) + 6 by omega]
  show [_, _, _, _, _, _] ++ s.tab.take (64 + i * 1) ++ [_] ++ s.tab.drop (64 + (i * 1 + 1)) = [_, _, _, _, _, _] ++ (flat s.own ++ flat (s.epo.set i v))
  rw [← h1, Stt.tab, ← hf, List.take_length_add_append, List.drop_length_add_append]
  simp only [List.append_assoc]
set_option maxHeartbeats 4000000 in
theorem read_calls (H : AHeap) (S : Nat) (y : AV) (s : Stt) (hs : StAt H S y s) (ok : s.Ok) (n : Int) (l : List UInt8) (hl : l.length ≤ 1000000) (hkn : s.known.length ≤ 1000000) :
    ACalls Tryz.prog 46 [.ptr S 0, .v (.int .i64 n), strA l] H (fun r H' => r = .v (.bool (stepP (decide (n = 0)) s l).isSome) ∧ ∃ y', StAt H' S y' ((stepP (decide (n = 0)) s l).getD s) ∧ BSt S H y H' y') := by
  have hg := hs.get
  have hlt := hs.lt
  have hcl : (s.cs y).length = s.tab.length + 6 := rfl
  have hy1 : y.one = true := hs.kn.one
  refine ACalls.of_body tok Tryz.func46 rfl Tryz.ntmps46 (Nat.le_of_ble_eq_true rfl) (fun base => ?_)
  refine rg fun K hK => ?_
  refine st qP222 <| nt (hK _ _ ?_)
  clear hK K
  refine rg fun K hK => ?_
  refine st qP223 <| st (by exact SD.s rfl rfl rfl (by exact AStepD.callf rfl en75 rfl (cut3_calls _ l [32] hl))) <| st qP223 <| st qP220 <| st qP220 <| st qP220 <| st qP222 <| st qP222 <| st qP222 <| nt (hK _ _ ?_)
  clear hK K
  refine AW.seq_k (fun K1 hK1 => ?_)
  refine AW.block ?_
  refine rg fun K hK => ?_
  refine st qP223 <| st (by exact SD.s rfl rfl rfl qP31) <| st qP222 <| nt (hK _ _ ?_)
  clear hK K
  by_cases h0 : n = 0
  · refine AW.cond_true rfl (decide_eq_true h0) ?_
    have hP : stepP (decide (n = 0)) s l = (fieldsF W5 l).map (hdS s) := by rw [stepP, if_pos (decide_eq_true h0)]
    refine rg fun K hK => ?_
    refine st qP223 <| st (by exact SD.s rfl rfl rfl (by exact AStepD.vec_flat (l := W5) (AStepD.buildSlice_seq tok rfl rfl rfl rfl (show _ = 1 from rfl) (map_p qP21 (map_p qP21 (map_p qP21 (map_p qP21 (map_p qP21 map_n))))) rfl (by decide) (by decide) rfl qP32 qP213) rfl rfl rfl)) <| st (by exact SD.s rfl rfl rfl (by exact AStepD.callf rfl en76 rfl (fields_calls _ l W5 hl (by decide)))) <| st qP223 <| st qP220 <| st qP220 <| st qP222 <| st qP222 <| nt (hK _ _ ?_)
    clear hK K
    refine AW.seq_k (fun K2 hK2 => ?_)
    cases hf : fieldsF W5 l with
    | none =>
      refine rg fun K hK => ?_
      refine st qP223 <| nt (hK _ _ ?_)
      clear hK K
      refine AW.cond_false rfl rfl (AW.skip ?_)
      refine hK2 _ _ ?_; try clear hK2 K2
      refine rg fun K hK => ?_
      refine st qP223 <| st qP222 <| nt (hK _ _ ?_)
      clear hK K
      refine AW.ret (RetQ.mk (.inr rfl) (retA_tmp rfl qP21 retA_nil) ⟨?_, y, ?_⟩)
      · rw [hP, hf]; rfl
      · rw [hP, hf]; exact hs.same
    | some ns =>
      obtain ⟨a, b, cc, d, e, rfl⟩ : ∃ a b cc d e, ns = [a, b, cc, d, e] := by
        match ns, (fields_len hf).2 with
        | [a, b, cc, d, e], _ => exact ⟨a, b, cc, d, e, rfl⟩
      refine rg fun K hK => ?_
      refine st qP223 <| nt (hK _ _ ?_)
      clear hK K
      refine AW.cond_true rfl rfl ?_
      apply AW.draw mixed [_, _, _, _, _, _, _, _, _, _, _, _, _, _, _, _, _, _, _, _, _, _, _, _, _, _, _, _] [21, 24, 27] [_, _, _, _] [(0, 0), (1, 0), (2, 0), (3, 0), (4, 0), (5, 0), (6, 0), (7, 0), (8, 0), (9, 0), (10, 0), (11, 0), (12, 0), (13, 0), (14, 0), (15, 0), (16, 0), (17, 0), (18, 0), (19, 0), (20, 0), (21, 0), (22, 1), (23, 1), (24, 1), (25, 2), (26, 2), (27, 2), (1, 1), (2, 1), (2, 2), (18, 1), (18, 2)] rfl rfl rfl qP33
      · refine ⟨?_, ?_, ?_, ?_, ?_, ?_, ?_, ?_, ?_, ?_, ?_, ?_, ?_, ?_, ?_, ?_, ?_, ?_, ?_, ?_, ?_, ?_, ?_, ?_, ?_, ?_, ?_, ?_, ?_, ?_, ?_, ?_, ?_⟩
        · refine Ob.mk _ [0] 0 rfl rfl (restr_cons qP21 restr_nil) rfl ?_
          simp only [List.getD_cons_zero, List.getD_cons_succ]
          exact GStep.plain rfl qP215
        · refine Ob.mk _ [0] 0 rfl rfl (restr_cons qP21 restr_nil) rfl ?_
          simp only [List.getD_cons_zero, List.getD_cons_succ]
          exact GStep.plain rfl qP215
        · refine Ob.mk _ [0] 0 rfl rfl (restr_cons qP21 restr_nil) rfl ?_
          simp only [List.getD_cons_zero, List.getD_cons_succ]
          exact GStep.plain rfl qP215
        · refine Ob.mk _ [10] 0 rfl rfl (restr_cons qP21 restr_nil) rfl ?_
          simp only [List.getD_cons_zero, List.getD_cons_succ]
          exact GStep.plain rfl qP215
        · refine Ob.mk _ [42] 0 rfl rfl (restr_cons qP21 restr_nil) rfl ?_
          simp only [List.getD_cons_zero, List.getD_cons_succ]
          exact GStep.plain rfl qP218
        · refine Ob.mk _ [43] 0 rfl rfl (restr_cons qP21 restr_nil) rfl ?_
          simp only [List.getD_cons_zero, List.getD_cons_succ]
          exact GStep.plain rfl qP34
        · refine Ob.mk _ [10] 0 rfl rfl (restr_cons qP21 restr_nil) rfl ?_
          simp only [List.getD_cons_zero, List.getD_cons_succ]
          exact GStep.plain rfl qP215
        · refine Ob.mk _ [45] 0 rfl rfl (restr_cons qP21 restr_nil) rfl ?_
          simp only [List.getD_cons_zero, List.getD_cons_succ]
          exact GStep.plain rfl qP218
        · refine Ob.mk _ [46] 0 rfl rfl (restr_cons qP21 restr_nil) rfl ?_
          simp only [List.getD_cons_zero, List.getD_cons_succ]
          exact GStep.plain rfl qP34
        · refine Ob.mk _ [10] 0 rfl rfl (restr_cons qP21 restr_nil) rfl ?_
          simp only [List.getD_cons_zero, List.getD_cons_succ]
          exact GStep.plain rfl qP215
        · refine Ob.mk _ [48] 0 rfl rfl (restr_cons qP21 restr_nil) rfl ?_
          simp only [List.getD_cons_zero, List.getD_cons_succ]
          exact GStep.plain rfl qP218
        · refine Ob.mk _ [49] 0 rfl rfl (restr_cons qP21 restr_nil) rfl ?_
          simp only [List.getD_cons_zero, List.getD_cons_succ]
          exact GStep.plain rfl qP34
        · refine Ob.mk _ [10] 0 rfl rfl (restr_cons qP21 restr_nil) rfl ?_
          simp only [List.getD_cons_zero, List.getD_cons_succ]
          exact GStep.plain rfl qP215
        · refine Ob.mk _ [51] 0 rfl rfl (restr_cons qP21 restr_nil) rfl ?_
          simp only [List.getD_cons_zero, List.getD_cons_succ]
          exact GStep.plain rfl qP218
        · refine Ob.mk _ [52] 0 rfl rfl (restr_cons qP21 restr_nil) rfl ?_
          simp only [List.getD_cons_zero, List.getD_cons_succ]
          exact GStep.plain rfl qP34
        · refine Ob.mk _ [10] 0 rfl rfl (restr_cons qP21 restr_nil) rfl ?_
          simp only [List.getD_cons_zero, List.getD_cons_succ]
          exact GStep.plain rfl qP215
        · refine Ob.mk _ [54] 0 rfl rfl (restr_cons qP21 restr_nil) rfl ?_
          simp only [List.getD_cons_zero, List.getD_cons_succ]
          exact GStep.plain rfl qP218
        · refine Ob.mk _ [55] 0 rfl rfl (restr_cons qP21 restr_nil) rfl ?_
          simp only [List.getD_cons_zero, List.getD_cons_succ]
          exact GStep.plain rfl qP34
        · refine Ob.mk _ [50, 53, 56] 0 rfl rfl (restr_cons qP21 (restr_cons qP21 (restr_cons qP21 restr_nil))) rfl ?_
          simp only [List.getD_cons_zero, List.getD_cons_succ]
          exact GStep.plain rfl qP313
        · refine Ob.mk _ [39] 0 rfl rfl (restr_cons qP21 restr_nil) rfl ?_
          simp only [List.getD_cons_zero, List.getD_cons_succ]
          exact GStep.plain rfl qP35
        · refine Ob.mk _ [58] 0 rfl rfl (restr_cons qP21 restr_nil) rfl ?_
          simp only [List.getD_cons_zero, List.getD_cons_succ]
          exact GStep.plain rfl qP321
        · refine Ob.mk _ [59, 44] 1 rfl rfl (restr_cons qP21 (restr_cons qP21 restr_nil)) rfl ?_
          simp only [List.getD_cons_zero, List.getD_cons_succ]
          exact GStep.plain rfl (by exact AStepD.store' (k := 1) (cs := s.cs y) (ys := [.v (.int .i64 a)]) (zs := ({ s with id := a } : Stt).cs y) tok rfl rfl hg rfl rfl qP37 rfl rfl rfl (by rw [hcl]; omega) rfl)
        · refine Ob.mk _ [40] 1 rfl rfl (restr_cons qP21 restr_nil) rfl ?_
          simp only [List.getD_cons_zero, List.getD_cons_succ]
          exact GStep.plain rfl qP35
        · refine Ob.mk _ [60] 1 rfl rfl (restr_cons qP21 restr_nil) rfl ?_
          simp only [List.getD_cons_zero, List.getD_cons_succ]
          exact GStep.plain rfl qP315
        · refine Ob.mk _ [61, 47] 2 rfl rfl (restr_cons qP21 (restr_cons qP21 restr_nil)) rfl ?_
          simp only [List.getD_cons_zero, List.getD_cons_succ]
          exact GStep.plain rfl (by exact AStepD.store' (k := 1) (ys := [.v (.int .i64 b)]) (cs := ({ s with id := a } : Stt).cs y) (zs := ({ s with id := a, master := b } : Stt).cs y) tok rfl rfl qP219 rfl rfl qP37 rfl rfl rfl (by show _ ≤ s.tab.length + 6; omega) rfl)
        · refine Ob.mk _ [41] 2 rfl rfl (restr_cons qP21 restr_nil) rfl ?_
          simp only [List.getD_cons_zero, List.getD_cons_succ]
          exact GStep.plain rfl qP35
        · refine Ob.mk _ [62] 2 rfl rfl (restr_cons qP21 restr_nil) rfl ?_
          simp only [List.getD_cons_zero, List.getD_cons_succ]
          exact GStep.plain rfl qP316
        · refine Ob.mk _ [63, 57] 3 rfl rfl (restr_cons qP21 (restr_cons qP21 restr_nil)) rfl ?_
          simp only [List.getD_cons_zero, List.getD_cons_succ]
          exact GStep.plain rfl (by exact AStepD.store' (k := 3) (ys := [.v (.int .i64 cc), .v (.int .i64 d), .v (.int .i64 e)]) (cs := ({ s with id := a, master := b } : Stt).cs y) (zs := (hdS s [a, b, cc, d, e]).cs y) tok rfl rfl qP219 rfl rfl qP37 rfl rfl rfl (by show _ ≤ s.tab.length + 6; omega) rfl)
        · refine Ob.mk _ [0] 1 rfl rfl (restr_cons qP21 restr_nil) rfl ?_
          simp only [List.getD_cons_zero, List.getD_cons_succ]
          exact GStep.plain rfl qP215
        · refine Ob.mk _ [0] 1 rfl rfl (restr_cons qP21 restr_nil) rfl ?_
          simp only [List.getD_cons_zero, List.getD_cons_succ]
          exact GStep.plain rfl qP215
        · refine Ob.mk _ [0] 2 rfl rfl (restr_cons qP21 restr_nil) rfl ?_
          simp only [List.getD_cons_zero, List.getD_cons_succ]
          exact GStep.plain rfl qP215
        · refine Ob.mk _ [50, 53, 56] 1 rfl rfl (restr_cons qP21 (restr_cons qP21 (restr_cons qP21 restr_nil))) rfl ?_
          simp only [List.getD_cons_zero, List.getD_cons_succ]
          exact GStep.plain rfl qP313
        · refine Ob.mk _ [50, 53, 56] 2 rfl rfl (restr_cons qP21 (restr_cons qP21 (restr_cons qP21 restr_nil))) rfl ?_
          simp only [List.getD_cons_zero, List.getD_cons_succ]
          exact GStep.plain rfl qP313
      refine hK2 _ _ ?_; try clear hK2 K2
      refine AW.frame qP38 qP39 ?_
      refine rg fun K hK => ?_
      refine st qP223 <| st qP222 <| nt (hK _ _ ?_)
      clear hK K
      refine AW.ret (RetQ.mk (.inr rfl) (retA_tmp rfl qP21 retA_nil) ⟨?_, y, ?_⟩)
      · rw [hP, hf]; rfl
      · rw [hP, hf]
        refine hs.put ?_ ?_ ?_ fun q hq => ?_
        · rfl
        · rfl
        · exact AHeap.get_set_same _ _ _
        · rw [AHeap.get_set_ne _ _ hq, AHeap.get_set_ne _ _ hq, AHeap.get_set_ne _ _ hq]
  refine AW.cond_false rfl (decide_eq_false h0) ?_
  refine rg fun K hK => ?_
  refine st qP223 <| st (by exact SD.s rfl rfl rfl (by exact AStepD.bool (AStepD.str_eql rfl rfl rfl) (c := decide ((Lib.cut l [32]).1 = wN)) (by rw [str_list]))) <| st qP222 <| nt (hK _ _ ?_)
  clear hK K
  by_cases h1 : (Lib.cut l [32]).1 = wN
  · refine AW.cond_true rfl (decide_eq_true h1) ?_
    have hP : stepP (decide (n = 0)) s l = (fieldsF W3 l).map fun n => addK s (knS n) := by rw [stepP, if_neg (by simpa using h0), if_pos h1]
    refine rg fun K hK => ?_
    refine st qP223 <| st (by exact SD.s rfl rfl rfl (by exact AStepD.vec_flat (l := W3) (AStepD.buildSlice_seq tok rfl rfl rfl rfl (show _ = 1 from rfl) (map_p qP21 (map_p qP21 (map_p qP21 map_n))) rfl (by decide) (by decide) rfl qP32 qP213) rfl rfl rfl)) <| st (by exact SD.s rfl rfl rfl (by exact AStepD.callf rfl en76 rfl (fields_calls _ l W3 hl (by decide)))) <| st qP223 <| st qP220 <| st qP220 <| st qP222 <| st qP222 <| nt (hK _ _ ?_)
    clear hK K
    refine AW.seq_k (fun K2 hK2 => ?_)
    cases hf : fieldsF W3 l with
    | none =>
      refine rg fun K hK => ?_
      refine st qP223 <| nt (hK _ _ ?_)
      clear hK K
      refine AW.cond_false rfl rfl (AW.skip ?_)
      refine hK2 _ _ ?_; try clear hK2 K2
      refine rg fun K hK => ?_
      refine st qP223 <| st qP222 <| nt (hK _ _ ?_)
      clear hK K
      refine AW.ret (RetQ.mk (.inr rfl) (retA_tmp rfl qP21 retA_nil) ⟨?_, y, ?_⟩)
      · rw [hP, hf]; rfl
      · rw [hP, hf]; exact hs.same
    | some ns =>
      obtain ⟨a, b, cc, rfl⟩ : ∃ a b cc, ns = [a, b, cc] := by
        match ns, (fields_len hf).2 with
        | [a, b, cc], _ => exact ⟨a, b, cc, rfl⟩
      have hk : knS [a, b, cc] = ⟨a, b, cc⟩ := rfl
      refine rg fun K hK => ?_
      refine st qP223 <| nt (hK _ _ ?_)
      clear hK K
      refine AW.cond_true rfl rfl ?_
      have hyk := hs.kn
      have hap := hyk.app (by omega) (m := [knS [a, b, cc]]) (n := (s.known ++ [knS [a, b, cc]]).length) (by simp) (zs := flat (s.known ++ [knS [a, b, cc]])) rfl
      apply AW.draw mixed [_, _, _, _, _, _, _, _, _, _, _, _, _, _, _, _, _, _, _, _] [16, 19] [_, _, _] [(0, 0), (1, 0), (2, 0), (3, 0), (4, 0), (5, 0), (6, 0), (7, 0), (8, 0), (9, 0), (10, 0), (11, 0), (12, 0), (13, 0), (14, 0), (15, 0), (16, 0), (17, 1), (18, 1), (19, 1), (0, 1)] rfl rfl rfl qP33
      · refine ⟨?_, ?_, ?_, ?_, ?_, ?_, ?_, ?_, ?_, ?_, ?_, ?_, ?_, ?_, ?_, ?_, ?_, ?_, ?_, ?_, ?_⟩
        · refine Ob.mk _ [0] 0 rfl rfl (restr_cons qP21 restr_nil) rfl ?_
          simp only [List.getD_cons_zero, List.getD_cons_succ]
          exact GStep.plain rfl qP215
        · refine Ob.mk _ [0] 0 rfl rfl (restr_cons qP21 restr_nil) rfl ?_
          simp only [List.getD_cons_zero, List.getD_cons_succ]
          exact GStep.plain rfl qP215
        · refine Ob.mk _ [76] 0 rfl rfl (restr_cons qP21 restr_nil) rfl ?_
          simp only [List.getD_cons_zero, List.getD_cons_succ]
          exact GStep.plain rfl qP35
        · refine Ob.mk _ [77] 0 rfl rfl (restr_cons qP21 restr_nil) rfl ?_
          simp only [List.getD_cons_zero, List.getD_cons_succ]
          exact GStep.plain rfl qP322
        · refine Ob.mk _ [78] 0 rfl rfl (restr_cons qP21 restr_nil) rfl ?_
          simp only [List.getD_cons_zero, List.getD_cons_succ]
          exact GStep.plain rfl (by exact AStepD.load_one tok rfl rfl rfl rfl hg rfl rfl)
        · refine Ob.mk _ [12] 0 rfl rfl (restr_cons qP21 restr_nil) rfl ?_
          simp only [List.getD_cons_zero, List.getD_cons_succ]
          exact GStep.plain rfl qP215
        · refine Ob.mk _ [80] 0 rfl rfl (restr_cons qP21 restr_nil) rfl ?_
          simp only [List.getD_cons_zero, List.getD_cons_succ]
          exact GStep.plain rfl qP218
        · refine Ob.mk _ [81] 0 rfl rfl (restr_cons qP21 restr_nil) rfl ?_
          simp only [List.getD_cons_zero, List.getD_cons_succ]
          exact GStep.plain rfl qP34
        · refine Ob.mk _ [12] 0 rfl rfl (restr_cons qP21 restr_nil) rfl ?_
          simp only [List.getD_cons_zero, List.getD_cons_succ]
          exact GStep.plain rfl qP215
        · refine Ob.mk _ [83] 0 rfl rfl (restr_cons qP21 restr_nil) rfl ?_
          simp only [List.getD_cons_zero, List.getD_cons_succ]
          exact GStep.plain rfl qP218
        · refine Ob.mk _ [84] 0 rfl rfl (restr_cons qP21 restr_nil) rfl ?_
          simp only [List.getD_cons_zero, List.getD_cons_succ]
          exact GStep.plain rfl qP34
        · refine Ob.mk _ [12] 0 rfl rfl (restr_cons qP21 restr_nil) rfl ?_
          simp only [List.getD_cons_zero, List.getD_cons_succ]
          exact GStep.plain rfl qP215
        · refine Ob.mk _ [86] 0 rfl rfl (restr_cons qP21 restr_nil) rfl ?_
          simp only [List.getD_cons_zero, List.getD_cons_succ]
          exact GStep.plain rfl qP218
        · refine Ob.mk _ [87] 0 rfl rfl (restr_cons qP21 restr_nil) rfl ?_
          simp only [List.getD_cons_zero, List.getD_cons_succ]
          exact GStep.plain rfl qP34
        · refine Ob.mk _ [82, 85, 88] 0 rfl rfl (restr_cons qP21 (restr_cons qP21 (restr_cons qP21 restr_nil))) rfl ?_
          simp only [List.getD_cons_zero, List.getD_cons_succ]
          exact GStep.plain rfl qP313
        · refine Ob.mk _ [89] 0 rfl rfl (restr_cons qP21 restr_nil) rfl ?_
          simp only [List.getD_cons_zero, List.getD_cons_succ]
          exact GStep.plain rfl (by exact AStepD.vec_flat (l := [knS [a, b, cc]]) (AStepD.buildSlice1 tok rfl rfl rfl rfl (show _ = 3 from rfl) qP21 qP21 rfl (by decide) qP213) rfl rfl rfl)
        · refine Ob.mk _ [79, 90] 1 rfl rfl (restr_cons qP21 (restr_cons qP21 restr_nil)) rfl ?_
          simp only [List.getD_cons_zero, List.getD_cons_succ]
          exact GStep.plain rfl (by exact AStepD.append_lst (bk := 64) (l := s.known) (y := y) (b := S + 1) (m := (s.known ++ [knS [a, b, cc]]).length) tok rfl rfl hyk rfl rfl rfl rfl rfl rfl (show _ = 3 from rfl) rfl rfl Ax.Src.vec rfl Nat.zero_lt_one (flat_ones _) (by simp; omega) (by simp; omega) (by simp) (flat_append s.known [knS [a, b, cc]]).symm)
        · refine Ob.mk _ [75] 1 rfl rfl (restr_cons qP21 restr_nil) rfl ?_
          simp only [List.getD_cons_zero, List.getD_cons_succ]
          exact GStep.plain rfl qP35
        · refine Ob.mk _ [92] 1 rfl rfl (restr_cons qP21 restr_nil) rfl ?_
          simp only [List.getD_cons_zero, List.getD_cons_succ]
          exact GStep.plain rfl qP322
        · refine Ob.mk _ [93, 91] 2 rfl rfl (restr_cons qP21 (restr_cons qP21 restr_nil)) rfl ?_
          simp only [List.getD_cons_zero, List.getD_cons_succ]
          exact GStep.plain rfl (by exact AStepD.store' (k := 1) (cs := s.cs y) (ys := [.sl H.next 0 (s.known ++ [knS [a, b, cc]]).length 3]) (zs := (addK s (knS [a, b, cc])).cs (.sl H.next 0 (s.known ++ [knS [a, b, cc]]).length 3)) tok rfl rfl qP219 rfl rfl qP37 rfl rfl rfl (by rw [hcl]; omega) rfl)
        · refine Ob.mk _ [0] 1 rfl rfl (restr_cons qP21 restr_nil) rfl ?_
          simp only [List.getD_cons_zero, List.getD_cons_succ]
          exact GStep.plain rfl qP215
      refine hK2 _ _ ?_; try clear hK2 K2
      refine AW.frame qP38 qP39 ?_
      refine rg fun K hK => ?_
      refine st qP223 <| st qP222 <| nt (hK _ _ ?_)
      clear hK K
      refine AW.ret (RetQ.mk (.inr rfl) (retA_tmp rfl qP21 retA_nil) ⟨?_, .sl H.next 0 (s.known ++ [knS [a, b, cc]]).length 3, ?_, ?_⟩)
      · rw [hP, hf]; rfl
      · rw [hP, hf]
        refine ⟨?_, AHeap.get_set_same _ _ _, ?_⟩
        · simp only [za, zd, zc]; omega
        · exact hap.keep (fun D hD _ _ => AHeap.get_set_ne _ _ (Nat.ne_of_gt hD)) (Nat.le_refl _)
      · refine ⟨by simp only [za, zd, zc]; omega, fun q hq hqS hql => ?_, fun q hq => ?_⟩
        · rw [AHeap.get_set_ne _ _ hqS, z9 _ hql, AHeap.get_new_ne _ _ (by omega)]
        · simp only [lab, Option.some.injEq] at hq
          exact .inr (by omega)
  refine AW.cond_false rfl (decide_eq_false h1) ?_
  refine rg fun K hK => ?_
  refine st qP223 <| st (by exact SD.s rfl rfl rfl (by exact AStepD.bool (AStepD.str_eql rfl rfl rfl) (c := decide ((Lib.cut l [32]).1 = wL)) (by rw [str_list]))) <| st qP222 <| nt (hK _ _ ?_)
  clear hK K
  by_cases h2 : (Lib.cut l [32]).1 = wL
  · refine AW.cond_true rfl (decide_eq_true h2) ?_
    obtain ⟨hd, hhd⟩ : ∃ hd, hd = (Lib.cut l [32, 58, 32]).1 := ⟨_, rfl⟩
    obtain ⟨tl, htl⟩ : ∃ tl, tl = (Lib.cut l [32, 58, 32]).2.1 := ⟨_, rfl⟩
    obtain ⟨two, htw⟩ : ∃ two, two = (Lib.cut l [32, 58, 32]).2.2 := ⟨_, rfl⟩
    have hP : stepP (decide (n = 0)) s l = if two && (fieldsF W2 hd).isSome && (parseO tl).isSome then some (putT s (parseS tl) (((fieldsF W2 hd).getD []).getD 0 0) (((fieldsF W2 hd).getD []).getD 1 0)) else none := by
      rw [stepP, if_neg (by simpa using h0), if_neg h1, if_pos h2, hhd, htl, htw]
    have hcl2 := cut_le l [32, 58, 32]
    rw [← hhd, ← htl] at hcl2
    refine rg fun K hK => ?_
    refine st qP223 <| st (by exact SD.s rfl rfl rfl (by exact AStepD.val (AStepD.callf rfl en75 rfl (cut3_calls _ l [32, 58, 32] hl)) (y := .tup [strA hd, strA tl, .v (.bool two)]) (by rw [hhd, htl, htw]))) <| st qP223 <| st qP220 <| st qP220 <| st qP220 <| st qP222 <| st qP222 <| st qP222 <| nt (hK _ _ ?_)
    clear hK K
    refine rg fun K hK => ?_
    refine st qP223 <| st (by exact SD.s rfl rfl rfl (by exact AStepD.vec_flat (l := W2) (AStepD.buildSlice_seq tok rfl rfl rfl rfl (show _ = 1 from rfl) (map_p qP21 (map_p qP21 map_n)) rfl (by decide) (by decide) rfl qP32 qP213) rfl rfl rfl)) <| st (by exact SD.s rfl rfl rfl (by exact AStepD.callf rfl en76 rfl (fields_calls _ hd W2 (by omega) (by decide)))) <| st qP223 <| st qP220 <| st qP220 <| st qP222 <| st qP222 <| nt (hK _ _ ?_)
    clear hK K
    refine rg fun K hK => ?_
    refine st qP223 <| st (by exact SD.s rfl rfl rfl (by exact AStepD.callf rfl en77 rfl (parse_calls _ tl (by omega)))) <| st qP223 <| st qP220 <| st qP220 <| st qP222 <| st qP222 <| nt (hK _ _ ?_)
    clear hK K
    clear hhd htl htw hcl2
    refine AW.seq_k (fun K4 hK4 => ?_)
    refine rg fun K hK => ?_
    refine st qP223 <| st (by exact SD.s rfl rfl rfl (by first | exact AStepD.not rfl rfl | exact AStepD.neg rfl rfl (by first | exact IntWalk.i64_in _ (by omega) | exact IntWalk.i64_in _ (by simp only [Bool.or_eq_true, Bool.and_eq_true, Bool.or_eq_false_iff, Bool.and_eq_false_iff, Bool.not_eq_true', Bool.not_eq_false', decide_eq_true_eq, decide_eq_false_iff_not, Int.not_lt, Int.not_le, beq_iff_eq] at *; omega) | exact rfl))) <| st qP223 <| st (GW.p (l := [18]) qP318) <| st (GW.p (l := [118]) (by first | exact GW.yes rfl rfl rfl rfl rfl rfl rfl (by first | exact AStepD.not rfl rfl | exact AStepD.neg rfl rfl (by first | exact IntWalk.i64_in _ (by omega) | exact IntWalk.i64_in _ (by simp only [Bool.or_eq_true, Bool.and_eq_true, Bool.or_eq_false_iff, Bool.and_eq_false_iff, Bool.not_eq_true', Bool.not_eq_false', decide_eq_true_eq, decide_eq_false_iff_not, Int.not_lt, Int.not_le, beq_iff_eq] at *; omega) | exact rfl)) | exact GW.no rfl rfl rfl rfl rfl rfl rfl | exact GW.none rfl rfl rfl rfl rfl | exact GW.may rfl rfl rfl rfl rfl rfl (fun hb => by (repeat (first | apply UW.yes rfl (gpf hb) | apply UW.no)); exact UW.nil (by first | exact AStepD.not rfl rfl | exact AStepD.neg rfl rfl (by first | exact IntWalk.i64_in _ (by omega) | exact IntWalk.i64_in _ (by simp only [Bool.or_eq_true, Bool.and_eq_true, Bool.or_eq_false_iff, Bool.and_eq_false_iff, Bool.not_eq_true', Bool.not_eq_false', decide_eq_true_eq, decide_eq_false_iff_not, Int.not_lt, Int.not_le, beq_iff_eq] at *; omega) | exact rfl))) | exact GW.may2 rfl rfl rfl rfl rfl rfl (fun _ hb => by (repeat (first | apply UW.yes rfl (gpf hb) | apply UW.no)); exact UW.nil (by first | exact AStepD.not rfl rfl | exact AStepD.neg rfl rfl (by first | exact IntWalk.i64_in _ (by omega) | exact IntWalk.i64_in _ (by simp only [Bool.or_eq_true, Bool.and_eq_true, Bool.or_eq_false_iff, Bool.and_eq_false_iff, Bool.not_eq_true', Bool.not_eq_false', decide_eq_true_eq, decide_eq_false_iff_not, Int.not_lt, Int.not_le, beq_iff_eq] at *; omega) | exact rfl))))) <| st qP312 <| st qP223 <| st (GW.p (l := [20]) qP318) <| st (GW.p (l := [122]) (by first | exact GW.yes rfl rfl rfl rfl rfl rfl rfl (by exact AStepD.bool (AStepD.neq rfl rfl rfl) (c := !(parseO tl).isSome) (by rw [parseE]; cases (parseO tl).isSome <;> rfl)) | exact GW.no rfl rfl rfl rfl rfl rfl rfl | exact GW.none rfl rfl rfl rfl rfl | exact GW.may rfl rfl rfl rfl rfl rfl (fun hb => by (repeat (first | apply UW.yes rfl (gpf hb) | apply UW.no)); exact UW.nil (by exact AStepD.bool (AStepD.neq rfl rfl rfl) (c := !(parseO tl).isSome) (by rw [parseE]; cases (parseO tl).isSome <;> rfl))) | exact GW.may2 rfl rfl rfl rfl rfl rfl (fun _ hb => by (repeat (first | apply UW.yes rfl (gpf hb) | apply UW.no)); exact UW.nil (by exact AStepD.bool (AStepD.neq rfl rfl rfl) (c := !(parseO tl).isSome) (by rw [parseE]; cases (parseO tl).isSome <;> rfl))))) <| st qP312 <| nt (hK _ _ ?_)
    clear hK K
    refine AW.cond _ rfl (fun hc => ?_) (fun hc => ?_)
    · have hno : (two && (fieldsF W2 hd).isSome && (parseO tl).isSome) = false := by
        revert hc; cases two <;> cases (fieldsF W2 hd).isSome <;> cases (parseO tl).isSome <;> decide
      refine rg fun K hK => ?_
      refine st qP222 <| nt (hK _ _ ?_)
      clear hK K
      refine AW.ret (RetQ.mk (.inr rfl) (retA_tmp rfl qP21 retA_nil) ⟨?_, y, ?_⟩)
      · rw [hP, hno]; rfl
      · rw [hP, hno]; exact hs.same
    have hyes : (two && (fieldsF W2 hd).isSome && (parseO tl).isSome) = true := by
      revert hc; cases two <;> cases (fieldsF W2 hd).isSome <;> cases (parseO tl).isSome <;> decide
    rw [hyes, if_pos rfl] at hP
    obtain ⟨w, e, hf⟩ : ∃ w e, fieldsF W2 hd = some [w, e] := by
      cases hf : fieldsF W2 hd with
      | none => rw [hf] at hyes; simp at hyes
      | some ns =>
        match ns, (fields_len hf).2 with
        | [a, b], _ => exact ⟨a, b, rfl⟩
    rw [hf] at hP
    have hP : stepP (decide (n = 0)) s l = some (putT s (parseS tl) w e) := hP
    obtain ⟨b, hb⟩ : ∃ b, b = parseS tl := ⟨_, rfl⟩
    rw [← hb] at hP
    refine AW.skip ?_
    refine hK4 _ _ ?_; try clear hK4 K4
    refine AW.seq_k (fun K5 hK5 => ?_)
    rw [hf, ← hb]
    refine rg fun K hK => ?_
    refine st qP223 <| st (by exact SD.s rfl rfl rfl (by exact AStepD.callf rfl en27 rfl (list_calls _ b))) <| st qP224 <| st qP223 <| nt (hK _ _ ?_)
    clear hK K
    have hms : memS b = (memN b).map fun (n : Nat) => (n : Int) := rfl
    have hmsl : (memS b).length = (memN b).length := by rw [hms, List.length_map]
    have hms64 := memS_length b
    refine AW.block ?_
    refine AW.loop_at (ι := Nat) (fun k => [(128, .v (.int .i64 (k : Nat))), (127, .v (.int .i64 ((memS b).length : Nat))), (126, vecA (memS b)), (17, vecA [w, e]), (0, .ptr S 0)])
      (fun k H' => k ≤ (memN b).length ∧ H'.next = H.next ∧ H'.get S = some (.cells 34 (({ s with own := putL s.own ((memN b).take k) w, epo := putL s.epo ((memN b).take k) e } : Stt).cs y)) ∧ ∀ q, q ≠ S → H'.get q = H.get q) (fun k => (memN b).length - k) 0 qP217 ⟨Nat.zero_le _, rfl, hg, fun _ _ => rfl⟩ ?_
    rintro k H2 ⟨hk, hn2, g2, hq2⟩
    refine rg fun K hK => ?_
    refine st (by exact SD.s rfl rfl rfl (by exact AStepD.lss rfl rfl rfl)) <| nt (hK _ _ ?_)
    clear hK K
    refine AW.seq_k (fun K6 hK6 => ?_)
    refine AW.cond _ rfl (fun hc => ?_) (fun hc => ?_)
    · (try simp only [Bool.or_eq_true, Bool.and_eq_true, Bool.or_eq_false_iff, Bool.and_eq_false_iff, Bool.not_eq_true', Bool.not_eq_false', decide_eq_true_eq, decide_eq_false_iff_not, Int.not_lt, Int.not_le] at hc)
      have hkl : k < (memN b).length := by omega
      have hge : (memS b)[k]'(by omega) = ((memN b)[k] : Nat) := by simp only [hms, List.getElem_map]
      have hil : (memN b)[k] < 64 := List.mem_range.1 (List.mem_filter.1 (List.getElem_mem hkl)).1
      have htk := take_next (memN b) k hkl
      obtain ⟨s2, hs2⟩ : ∃ s2 : Stt, s2 = { s with own := putL s.own ((memN b).take k) w, epo := putL s.epo ((memN b).take k) e } := ⟨_, rfl⟩
      have ok2 : s2.Ok := by rw [hs2]; exact ⟨(putL_len _ _ _).trans ok.o, (putL_len _ _ _).trans ok.e⟩
      rw [← hs2] at g2
      generalize hik : (memN b)[k] = i at hge hil htk
      have hnx : ({ s with own := putL s.own ((memN b).take (k + 1)) w, epo := putL s.epo ((memN b).take (k + 1)) e } : Stt) = { s2 with own := s2.own.set i w, epo := s2.epo.set i e } := by
        rw [hs2, htk, putL_snoc, putL_snoc]
      have ok3 : ({ s2 with own := s2.own.set i w } : Stt).Ok := ⟨(List.length_set ..).trans ok2.o, ok2.e⟩
      have hf2 := ok2.fc y
      have hf3 := ok3.fc y
      refine AW.skip ?_
      refine hK6 _ _ ?_; try clear hK6 K6
      refine AW.seq_k (fun K7 hK7 => ?_)
      refine AW.block ?_
      refine rg fun K hK => ?_
      refine st (by exact SD.s rfl rfl rfl qP218) <| st (by exact SD.s rfl rfl rfl qP34) <| st qP222 <| nt (hK _ _ ?_)
      clear hK K
      rw [hge]
      apply AW.draw mixed [_, _, _, _, _, _, _, _, _, _, _, _, _, _, _, _, _, _, _, _] [14, 19] [_, _, _] [(0, 0), (1, 0), (2, 0), (3, 0), (4, 0), (5, 0), (6, 0), (7, 0), (8, 0), (9, 0), (10, 0), (11, 0), (12, 0), (13, 0), (14, 0), (15, 1), (16, 1), (17, 1), (18, 1), (19, 1), (2, 1), (3, 1), (15, 0), (16, 0), (17, 0)] rfl rfl rfl qP33
      · refine ⟨?_, ?_, ?_, ?_, ?_, ?_, ?_, ?_, ?_, ?_, ?_, ?_, ?_, ?_, ?_, ?_, ?_, ?_, ?_, ?_, ?_, ?_, ?_, ?_, ?_⟩
        · refine Ob.mk _ [0] 0 rfl rfl (restr_cons qP21 restr_nil) rfl ?_
          simp only [List.getD_cons_zero, List.getD_cons_succ]
          exact GStep.plain rfl qP215
        · refine Ob.mk _ [22] 0 rfl rfl (restr_cons qP21 restr_nil) rfl ?_
          simp only [List.getD_cons_zero, List.getD_cons_succ]
          exact GStep.plain rfl qP215
        · refine Ob.mk _ [0] 0 rfl rfl (restr_cons qP21 restr_nil) rfl ?_
          simp only [List.getD_cons_zero, List.getD_cons_succ]
          exact GStep.plain rfl qP215
        · refine Ob.mk _ [22] 0 rfl rfl (restr_cons qP21 restr_nil) rfl ?_
          simp only [List.getD_cons_zero, List.getD_cons_succ]
          exact GStep.plain rfl qP215
        · refine Ob.mk _ [17] 0 rfl rfl (restr_cons qP21 restr_nil) rfl ?_
          simp only [List.getD_cons_zero, List.getD_cons_succ]
          exact GStep.plain rfl qP215
        · refine Ob.mk _ [136] 0 rfl rfl (restr_cons qP21 restr_nil) rfl ?_
          simp only [List.getD_cons_zero, List.getD_cons_succ]
          exact GStep.plain rfl qP218
        · refine Ob.mk _ [137] 0 rfl rfl (restr_cons qP21 restr_nil) rfl ?_
          simp only [List.getD_cons_zero, List.getD_cons_succ]
          exact GStep.plain rfl qP34
        · refine Ob.mk _ [17] 0 rfl rfl (restr_cons qP21 restr_nil) rfl ?_
          simp only [List.getD_cons_zero, List.getD_cons_succ]
          exact GStep.plain rfl qP215
        · refine Ob.mk _ [139] 0 rfl rfl (restr_cons qP21 restr_nil) rfl ?_
          simp only [List.getD_cons_zero, List.getD_cons_succ]
          exact GStep.plain rfl qP218
        · refine Ob.mk _ [140] 0 rfl rfl (restr_cons qP21 restr_nil) rfl ?_
          simp only [List.getD_cons_zero, List.getD_cons_succ]
          exact GStep.plain rfl qP34
        · refine Ob.mk _ [132] 0 rfl rfl (restr_cons qP21 restr_nil) rfl ?_
          simp only [List.getD_cons_zero, List.getD_cons_succ]
          exact GStep.plain rfl qP35
        · refine Ob.mk _ [142] 0 rfl rfl (restr_cons qP21 restr_nil) rfl ?_
          simp only [List.getD_cons_zero, List.getD_cons_succ]
          exact GStep.plain rfl qP323
        · refine Ob.mk _ [143] 0 rfl rfl (restr_cons qP21 restr_nil) rfl ?_
          simp only [List.getD_cons_zero, List.getD_cons_succ]
          exact GStep.plain rfl qP321
        · refine Ob.mk _ [144, 133] 0 rfl rfl (restr_cons qP21 (restr_cons qP21 restr_nil)) rfl ?_
          simp only [List.getD_cons_zero, List.getD_cons_succ]
          exact GStep.plain rfl (by exact AStepD.indexAddr_arr' (i := i) (off' := 6 + i * 1) tok rfl rfl rfl rfl rfl rfl rfl rfl hil rfl)
        · refine Ob.mk _ [145, 138] 1 rfl rfl (restr_cons qP21 (restr_cons qP21 restr_nil)) rfl ?_
          simp only [List.getD_cons_zero, List.getD_cons_succ]
          exact GStep.plain rfl (by exact AStepD.store' (k := 1) (cs := s2.cs y) (ys := [.v (.int .i64 w)]) (zs := ({ s2 with own := s2.own.set i w } : Stt).cs y) tok rfl rfl g2 rfl rfl qP37 rfl rfl rfl (by omega) (over_own ok2 hil w))
        · refine Ob.mk _ [134] 1 rfl rfl (restr_cons qP21 restr_nil) rfl ?_
          simp only [List.getD_cons_zero, List.getD_cons_succ]
          exact GStep.plain rfl qP35
        · refine Ob.mk _ [146] 1 rfl rfl (restr_cons qP21 restr_nil) rfl ?_
          simp only [List.getD_cons_zero, List.getD_cons_succ]
          exact GStep.plain rfl qP323
        · refine Ob.mk _ [147] 1 rfl rfl (restr_cons qP21 restr_nil) rfl ?_
          simp only [List.getD_cons_zero, List.getD_cons_succ]
          exact GStep.plain rfl qP324
        · refine Ob.mk _ [148, 135] 1 rfl rfl (restr_cons qP21 (restr_cons qP21 restr_nil)) rfl ?_
          simp only [List.getD_cons_zero, List.getD_cons_succ]
          exact GStep.plain rfl (by exact AStepD.indexAddr_arr' (i := i) (off' := 70 + i * 1) tok rfl rfl rfl rfl rfl rfl rfl rfl hil rfl)
        · refine Ob.mk _ [149, 141] 2 rfl rfl (restr_cons qP21 (restr_cons qP21 restr_nil)) rfl ?_
          simp only [List.getD_cons_zero, List.getD_cons_succ]
          exact GStep.plain rfl (by exact AStepD.store' (k := 1) (cs := ({ s2 with own := s2.own.set i w } : Stt).cs y) (ys := [.v (.int .i64 e)]) (zs := ({ s2 with own := s2.own.set i w, epo := s2.epo.set i e } : Stt).cs y) tok rfl rfl qP219 rfl rfl qP37 rfl rfl rfl (by omega) (over_epo ok3 hil e))
        · refine Ob.mk _ [0] 1 rfl rfl (restr_cons qP21 restr_nil) rfl ?_
          simp only [List.getD_cons_zero, List.getD_cons_succ]
          exact GStep.plain rfl qP215
        · refine Ob.mk _ [22] 1 rfl rfl (restr_cons qP21 restr_nil) rfl ?_
          simp only [List.getD_cons_zero, List.getD_cons_succ]
          exact GStep.plain rfl qP215
        · refine Ob.mk _ [134] 0 rfl rfl (restr_cons qP21 restr_nil) rfl ?_
          simp only [List.getD_cons_zero, List.getD_cons_succ]
          exact GStep.plain rfl qP35
        · refine Ob.mk _ [146] 0 rfl rfl (restr_cons qP21 restr_nil) rfl ?_
          simp only [List.getD_cons_zero, List.getD_cons_succ]
          exact GStep.plain rfl qP323
        · refine Ob.mk _ [147] 0 rfl rfl (restr_cons qP21 restr_nil) rfl ?_
          simp only [List.getD_cons_zero, List.getD_cons_succ]
          exact GStep.plain rfl qP324
      refine hK7 _ _ ?_; try clear hK7 K7
      refine AW.frame qP38 qP39 ?_
      refine AW.region ?_
      refine st (by exact SD.s rfl rfl rfl (by first | exact AStepD.add rfl rfl rfl (by first | exact IntWalk.i64_in _ (by omega) | exact IntWalk.i64_in _ (by simp only [Bool.or_eq_true, Bool.and_eq_true, Bool.or_eq_false_iff, Bool.and_eq_false_iff, Bool.not_eq_true', Bool.not_eq_false', decide_eq_true_eq, decide_eq_false_iff_not, Int.not_lt, Int.not_le, beq_iff_eq] at *; omega) | exact rfl) | exact AStepD.str_add rfl rfl rfl (by omega))) <| st qP223 <| AL.nil ?_
      refine ⟨k + 1, by omega, qP217, hkl, hn2, ?_, fun q hq => by rw [AHeap.get_set_ne _ _ hq, AHeap.get_set_ne _ _ hq]; exact hq2 q hq⟩
      rw [hnx]; exact AHeap.get_set_same _ _ _
    (try simp only [Bool.or_eq_true, Bool.and_eq_true, Bool.or_eq_false_iff, Bool.and_eq_false_iff, Bool.not_eq_true', Bool.not_eq_false', decide_eq_true_eq, decide_eq_false_iff_not, Int.not_lt, Int.not_le] at hc)
    obtain rfl : k = (memN b).length := by omega
    rw [List.take_length] at g2
    refine AW.exit ?_
    refine hK5 _ _ ?_; try clear hK5 K5 hK6 K6
    refine rg fun K hK => ?_
    refine st qP222 <| nt (hK _ _ ?_)
    clear hK K
    refine AW.ret (RetQ.mk (.inr rfl) (retA_tmp rfl qP21 retA_nil) ⟨?_, y, ?_⟩)
    · rw [hP]; rfl
    · rw [hP]
      exact hs.put (s' := putT s b w e) rfl hn2 g2 hq2
  refine AW.cond_false rfl (decide_eq_false h2) ?_
  have hP : stepP (decide (n = 0)) s l = none := by rw [stepP, if_neg (by simpa using h0), if_neg h1, if_neg h2]
  refine AW.skip ?_
  refine hK1 _ _ ?_; try clear hK1 K1
  refine rg fun K hK => ?_
  refine st qP222 <| nt (hK _ _ ?_)
  clear hK K
  refine AW.ret (RetQ.mk (.inr rfl) (retA_tmp rfl qP21 retA_nil) ⟨?_, y, ?_⟩)
  · rw [hP]; rfl
  · rw [hP]; exact hs.same
end Go.Proofs.YtcomjodfkcnjhaaGreatDoor
