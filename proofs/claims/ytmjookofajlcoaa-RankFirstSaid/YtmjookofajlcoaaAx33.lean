/- The abstract layer, part 33: values as rows of cells; lists of them; a list that is being built. -/
import Derived.Test.YtmjookofajlcoaaAx32
namespace Go.Ax
open Go
variable {md : Md}

/-- A value that is a row of cells. -/
class Cel (α : Type) where
  n : Nat
  c : α → List AV
  len : ∀ a, (c a).length = n
  one : ∀ a z, z ∈ c a → z.one = true
  pl : ∀ a z, z ∈ c a → Plain z
open Cel (c)

def flat {α : Type} [Cel α] (l : List α) : List AV := l.flatMap c

section
variable {α : Type} [Cel α]
theorem flat_nil : flat ([] : List α) = [] := rfl
theorem flat_cons (a : α) (r : List α) : flat (a :: r) = c a ++ flat r := by simp [flat]
theorem flat_one (a : α) : flat [a] = c a := by simp [flat]
theorem flat_append (a b : List α) : flat (a ++ b) = flat a ++ flat b := by simp [flat]
theorem flat_length (l : List α) : (flat l).length = l.length * Cel.n α := by
  induction l with
  | nil => simp [flat]
  | cons a r ih => rw [flat_cons, List.length_append, ih, Cel.len, List.length_cons, Nat.succ_mul]; omega
theorem flat_ones (l : List α) : ∀ z ∈ flat l, z.one = true := fun z hz => by
  obtain ⟨m, _, hm⟩ := List.mem_flatMap.1 hz
  exact Cel.one m z hm
theorem flat_plain (l : List α) : ∀ z ∈ flat l, Plain z := fun z hz => by
  obtain ⟨m, _, hm⟩ := List.mem_flatMap.1 hz
  exact Cel.pl m z hm
theorem flat_drop (l : List α) (i : Nat) : (flat l).drop (i * Cel.n α) = flat (l.drop i) := by
  induction l generalizing i with
  | nil => simp [flat]
  | cons a r ih =>
    cases i with
    | zero => simp
    | succ i => rw [flat_cons, List.drop_succ_cons, ← ih, List.drop_append, List.drop_of_length_le (by rw [Cel.len, Nat.succ_mul]; omega), List.nil_append, Cel.len, Nat.succ_mul, Nat.add_sub_cancel]
theorem flat_take (l : List α) (i : Nat) : (flat l).take (i * Cel.n α) = flat (l.take i) := by
  induction l generalizing i with
  | nil => simp [flat]
  | cons a r ih =>
    cases i with
    | zero => simp [flat]
    | succ i => rw [flat_cons, List.take_succ_cons, flat_cons, ← ih, List.take_append, List.take_of_length_le (by rw [Cel.len, Nat.succ_mul]; omega), Cel.len, Nat.succ_mul, Nat.add_sub_cancel]
theorem flat_drop_at (l : List α) (i : Nat) (h : i < l.length) : (flat l).drop (i * Cel.n α) = c l[i] ++ flat (l.drop (i + 1)) := by
  rw [flat_drop, List.drop_eq_getElem_cons h, flat_cons]
theorem flat_at (l : List α) (i : Nat) (h : i < l.length) : ((flat l).drop (i * Cel.n α)).take (Cel.n α) = c l[i] := by
  rw [flat_drop_at l i h, List.take_append_of_le_length (by rw [Cel.len]; exact Nat.le_refl _), List.take_of_length_le (by rw [Cel.len]; exact Nat.le_refl _)]
theorem flat_getc (l : List α) (i j : Nat) (h : i < l.length) (hj : j < Cel.n α) : (flat l)[i * Cel.n α + j]? = (c l[i])[j]? := by
  have := congrArg (fun q => q[j]?) (flat_drop_at l i h)
  simp only [List.getElem?_drop] at this
  rw [this, List.getElem?_append_left (by rw [Cel.len]; exact hj)]
theorem flat_sub (l : List α) (i j : Nat) : ((flat l).drop (i * Cel.n α)).take (j * Cel.n α) = flat ((l.drop i).take j) := by
  rw [flat_drop, flat_take]
/-- A part of an element, written. -/
theorem over_flat (l : List α) (i j : Nat) (h : i < l.length) (xs : List AV) (a : α) (hj : j + xs.length ≤ Cel.n α) (ha : over (c l[i]) j xs = c a) : over (flat l) (i * Cel.n α + j) xs = flat (l.set i a) := by
  have h1 : flat l = flat (l.take i) ++ (c l[i] ++ flat (l.drop (i + 1))) := by
    conv => lhs; rw [← List.take_append_drop i l, flat_append, List.drop_eq_getElem_cons h, flat_cons]
  have h2 : flat (l.set i a) = flat (l.take i) ++ (c a ++ flat (l.drop (i + 1))) := by
    rw [List.set_eq_take_append_cons_drop, if_pos h, flat_append, flat_cons]
  have hl : (flat (l.take i)).length = i * Cel.n α := by rw [flat_length, List.length_take, Nat.min_eq_left (Nat.le_of_lt h)]
  have hc := Cel.len l[i]
  rw [h2, ← ha, h1]
  unfold over
  rw [List.take_append, List.take_of_length_le (by omega), hl, Nat.add_sub_cancel_left, List.take_append_of_le_length (by omega),
    List.drop_append, List.drop_of_length_le (by rw [hl]; omega), List.nil_append, hl, show i * Cel.n α + j + xs.length - i * Cel.n α = j + xs.length by omega, List.drop_append, show j + xs.length - (c l[i]).length = 0 by omega, List.drop_zero]
  simp
end

/-- Whole numbers. -/
instance : Cel Int where
  n := 1
  c a := [.v (.int .i64 a)]
  len _ := rfl
  one _ z h := by simp at h; subst h; rfl
  pl _ z h := by simp at h; subst h; exact .v _
instance : Cel ByteArray where
  n := 1
  c a := [.v (.string a)]
  len _ := rfl
  one _ z h := by simp at h; subst h; rfl
  pl _ z h := by simp at h; subst h; exact .v _

/-- A list as a slice that nobody writes. -/
abbrev vecA {α : Type} [Cel α] (l : List α) : AV := .vec l.length (flat l)
theorem vecA_plain {α : Type} [Cel α] (l : List α) : Plain (vecA l) := .vec (flat_plain l)

/-! ### A list that is being built -/

/-- The location that a slice lies at. -/
def lab : AV → Option Nat
  | .sl l _ _ _ => some l
  | _ => none
def AHeap.delv (H : AHeap) (y : AV) : AHeap := match lab y with | some l => H.del l | none => H
theorem AHeap.delv_next (H : AHeap) (y : AV) : (H.delv y).next = H.next := by unfold AHeap.delv; split <;> rfl
theorem AHeap.delv_get (H : AHeap) {y : AV} {q : Nat} (h : lab y ≠ some q) : (H.delv y).get q = H.get q := by
  unfold AHeap.delv
  split
  · rename_i l hl; exact AHeap.get_del_ne _ (fun e => h (by rw [hl, e]))
  · rfl

/-- y is a slice of just the list l, nil or in memory of its own that came at b or later. -/
inductive Lst {α : Type} [Cel α] (t : TypeId) (b : Nat) (H : AHeap) : AV → List α → Prop
  | nil : Lst t b H (.v (.slice none 0 0)) []
  | sl {D : Nat} {l : List α} (hD : b ≤ D) (hN : D < H.next) (h : H.get D = some (.cells t (flat l))) : Lst t b H (.sl D 0 l.length (Cel.n α)) l

section
variable {α : Type} [Cel α] {t : TypeId} {b : Nat} {H H' : AHeap} {y : AV} {l : List α}
theorem Lst.mk {D n k : Nat} {cs : List AV} (hD : b ≤ D) (hN : D < H.next) (h : H.get D = some (.cells t cs)) (hc : cs = flat l) (hn : n = l.length) (hk : k = Cel.n α) : Lst t b H (.sl D 0 n k) l := by subst hc; subst hn; subst hk; exact .sl hD hN h
theorem Lst.isSl (h : Lst t b H y l) : IsSl y l.length := by cases h with | nil => exact .nil | sl => exact .sl
theorem Lst.one (h : Lst t b H y l) : y.one = true := by cases h <;> rfl
theorem Lst.at (h : Lst t b H y l) (hl : 0 < l.length) : ∃ D, y = .sl D 0 l.length (Cel.n α) ∧ b ≤ D ∧ D < H.next ∧ H.get D = some (.cells t (flat l)) := by
  cases h with
  | nil => simp at hl
  | sl hD hN h => exact ⟨_, rfl, hD, hN, h⟩
theorem Lst.lab_ne (h : Lst t b H y l) {q : Nat} (hq : q < b) : lab y ≠ some q := by
  cases h with
  | nil => simp [lab]
  | sl hD hN h => simp [lab]; omega
theorem Lst.lab_new (h : Lst t b H y l) {q : Nat} (hq : H.next ≤ q) : lab y ≠ some q := by
  cases h with
  | nil => simp [lab]
  | sl hD hN h => simp [lab]; omega
theorem Lst.keep (h : Lst t b H y l) (hk : ∀ D, b ≤ D → D < H.next → lab y = some D → H'.get D = H.get D) (hn : H.next ≤ H'.next) : Lst t b H' y l := by
  cases h with
  | nil => exact .nil
  | sl hD hN h => exact .sl hD (by omega) ((hk _ hD hN rfl).trans h)
theorem Lst.down {b' : Nat} (h : Lst t b H y l) (hb : b' ≤ b) : Lst t b' H y l := by
  cases h with
  | nil => exact .nil
  | sl hD hN h => exact .sl (by omega) hN h

/-- Behind an append: the list with more. -/
theorem Lst.app (h : Lst t b H y l) (hb : b ≤ H.next) {m : List α} {n : Nat} (hn : n = l.length + m.length) {zs : List AV} (hz : zs = flat (l ++ m)) :
    Lst t b ((H.new (.cells t zs)).delv y) (.sl H.next 0 n (Cel.n α)) (l ++ m) := by
  subst hz
  refine .mk hb (by rw [AHeap.delv_next]; exact Nat.lt_succ_self _) (cs := flat (l ++ m)) ?_ rfl (by rw [hn]; simp) rfl
  rw [AHeap.delv_get _ (h.lab_new (Nat.le_refl _)), AHeap.get_new_same]

/-- Memory that was there ahead of b lies as it lay. -/
theorem Lst.keepH (h : Lst t b H y l) {o : AObj} {q : Nat} (hq : q < b) (hb : b ≤ H.next) : ((H.new o).delv y).get q = H.get q := by
  rw [AHeap.delv_get _ (h.lab_ne hq), AHeap.get_new_ne _ _ (by omega)]
end

section
variable {P : Program} {o : Oper} {T : Fr} {H : AHeap} {TT : Nat → TI} (hT : TOk P TT) {α : Type} [Cel α]
include hT

theorem AStepD.append_lst {t t2 e : TypeId} {x z : Operand} {b n m k bk : Nat} {l : List α} {ys zs : List AV} {y src : AV} (ho : o.op = .call { callee := .builtin .append, args := #[x, z], argTypes := #[t, t2] }) (hx : aev T x = y) (hy : Lst e b H y l) (hz : aev T z = src)
    (hok : (TT t).ok = true) (hu : (TT t).und = .slice e) (hok2 : (TT t2).ok = true) (hu2 : (TT t2).und = .slice e) (hoke : (TT e).ok = true) (hk : (TT e).size = k) (hkn : k = Cel.n α) (hbk : Nat.ble (TT e).bytes bk = true) (hsrc : Src H k src n ys) (hys : ys.length = n * k) (hn : 0 < n)
    (hone : ∀ z ∈ ys, z.one = true) (hb : (l.length + n) * bk ≤ 140737488355328) (hm : l.length + n ≤ 9223372036854775807) (hmm : l.length + n = m) (hzs : flat l ++ ys = zs) :
    AStepD P o T H (.sl H.next 0 m k) ((H.new (.cells e zs)).delv y) := by
  subst hkn
  cases hy with
  | nil =>
    have := AStepD.append_nil' hT ho hx hz hok hu hok2 hu2 hoke hk hbk hsrc hys hn (by simpa using hb) (by simpa using hm)
    simp only [List.length_nil, Nat.zero_add] at hmm
    simp only [flat_nil, List.nil_append] at hzs
    subst hmm; subst hzs
    exact this
  | @sl D l hD hN h =>
    exact AStepD.append' hT ho hx hz hok hu hok2 hu2 hoke hk hbk h rfl (flat_length l) hsrc hys hone hb hm hmm hzs

theorem AStepD.indexAddr_flat {t e : TypeId} {x y : Operand} {i n kk : Nat} {k : IntKind} {j : Int} {l : List α} (ho : o.op = .indexAddr t x y) (hx : aev T x = .vec n (flat l)) (hn : n = l.length) (hy : aev T y = .v (.int k j)) (hok : (TT t).ok = true) (hu : (TT t).und = .slice e) (hoke : (TT e).ok = true) (hk : (TT e).size = kk)
    (hkn : kk = Cel.n α) (hj : j = (i : Int)) (hi : i < l.length) : AStepD P o T H (.ip (c l[i] ++ flat (l.drop (i + 1)))) H := by
  subst hkn; subst hn
  have := AStepD.indexAddr_vec' hT (H := H) ho hx hy hok hu hoke hk hj hi
  rwa [flat_drop_at l i hi] at this
end

theorem z9 (H : AHeap) {y : AV} {q : Nat} (h : lab y ≠ some q) : (H.delv y).get q = H.get q := AHeap.delv_get H h
theorem zd (H : AHeap) (y : AV) : (H.delv y).next = H.next := AHeap.delv_next H y
theorem AW.freeze' {P : Program} {cd : Code} {Q : APost} {T : Fr} {H : AHeap} {n l : Nat} {t : TypeId} {cs : List AV} (T' : Fr) (hl : H.get l = some (.cells t cs)) (hT : ∀ i, Frz l cs (look T i) (look T' i)) (h : AW md P cd Q T' (H.del l) n) : AW md P cd Q T H n := by
  intro ρ I w a hc ht hn hd
  obtain ⟨I', B, arr, hB, hI, hIb, hcl, hv, hc', ev⟩ := hc.freeze hl
  exact wpIn_mono (h ρ I' w a hc' (fun i => (hT i).cv hB hI hIb hcl hv (ht i)) hn (hd.ev ev)) fun _ _ _ f => f.of_ev ev

/-- A list that is built no more. -/
theorem AW.vecL {P : Program} {cd : Code} {Q : APost} {T : Fr} {H : AHeap} {n s : Nat} {α : Type} [Cel α] {t : TypeId} {b : Nat} {y : AV} {l : List α} (hy : Lst t b H y l) (hx : look T s = y) (h : AW md P cd Q ((s, vecA l) :: T) (H.delv y) n) : AW md P cd Q T H n := by
  cases hy with
  | nil =>
    intro ρ I w a hc ht hn hd
    refine h ρ I w a hc (fun i => ?_) hn hd
    rw [look_cons]
    split
    · rename_i e
      subst e
      have := ht i
      rw [hx] at this
      exact SubV.nil_vec ρ I _ this
    · exact ht i
  | @sl D l hD hN hc =>
    refine AW.freeze' _ hc (fun i => ?_) h
    rw [look_cons]
    split
    · rename_i e
      subst e
      rw [hx]
      have := Frz.sl (l := D) (cs := flat l) (off := 0) (len := l.length) (k := Cel.n α) (by rw [flat_length]; omega)
      rwa [List.drop_zero, ← flat_length, List.take_of_length_le (Nat.le_refl _)] at this
    · exact .same _
end Go.Ax
