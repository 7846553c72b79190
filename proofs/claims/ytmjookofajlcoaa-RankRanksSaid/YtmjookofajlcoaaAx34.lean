/- The abstract layer, part 34: lists of rows of plain values, flat. -/
import Derived.Test.YtmjookofajlcoaaAx33
import Derived.Shelf.GgSortFunc.RowK
namespace Go.Ax
open Cel (c)
open Go

theorem fm_length {α β : Type} {f : α → List β} {k : Nat} (hf : ∀ a, (f a).length = k) (l : List α) : (l.flatMap f).length = l.length * k := by
  induction l with
  | nil => simp
  | cons a r ih => rw [List.flatMap_cons, List.length_append, ih, hf, List.length_cons, Nat.succ_mul]; omega
theorem fm_get {α β : Type} {f : α → List β} {k : Nat} (hf : ∀ a, (f a).length = k) : ∀ (l : List α) (i j : Nat) (hi : i < l.length), j < k → (l.flatMap f)[i * k + j]? = (f l[i])[j]?
  | a :: r, 0, j, _, hj => by rw [Nat.zero_mul, Nat.zero_add, List.flatMap_cons, List.getElem?_append_left (by rw [hf]; exact hj)]; rfl
  | a :: r, i + 1, j, hi, hj => by
    rw [List.flatMap_cons, List.getElem?_append_right (by rw [hf, Nat.succ_mul]; omega), hf, show (i + 1) * k + j - k = i * k + j by rw [Nat.succ_mul]; omega]
    exact fm_get hf r i j (by simpa using hi) hj

theorem flatK_list {α : Type} [Inhabited α] {f : α → List Value} {k : Nat} (hf : ∀ a, (f a).length = k) (d : Array α) : (Sort.flatK f k d).toList = d.toList.flatMap f := by
  apply List.ext_getElem?
  intro t
  by_cases ht : t < d.size * k
  · have k0 : 0 < k := by rcases Nat.eq_zero_or_pos k with h | h; · subst h; simp at ht
                          · exact h
    have hi : t / k < d.toList.length := by rw [Array.length_toList]; exact Nat.div_lt_of_lt_mul (by rw [Nat.mul_comm]; exact ht)
    have hm : t % k < k := Nat.mod_lt _ k0
    have e := fm_get hf d.toList (t / k) (t % k) hi hm
    rw [show t / k * k + t % k = t by rw [Nat.mul_comm]; exact Nat.div_add_mod t k] at e
    have hi' : t / k < d.size := by simpa using hi
    rw [e]
    simp only [Sort.flatK, Array.getElem?_toList]
    rw [Array.getElem?_map, Array.getElem?_eq_getElem (by simpa using ht)]
    simp only [Array.getElem_range, Option.map_some]
    rw [getElem!_pos d _ hi', getElem!_pos _ _ (by rw [hf]; exact hm), List.getElem?_eq_getElem (by rw [hf]; exact hm)]
    simp only [Array.getElem_toList]
  · rw [List.getElem?_eq_none (by simp [Sort.flatK]; omega), List.getElem?_eq_none (by rw [fm_length hf, Array.length_toList]; omega)]

theorem amap_nil {T : Fr} : ([] : List Operand).map (aev T) = [] := rfl
theorem amap_cons {T : Fr} {x : Operand} {xs : List Operand} {y : AV} {ys : List AV} (h : aev T x = y) (ht : xs.map (aev T) = ys) : (x :: xs).map (aev T) = y :: ys := by subst h; subst ht; rfl
theorem AStepD.box1 {P : Program} {o : Oper} {T : Fr} {H : AHeap} {t : TypeId} {x : Operand} {y : AV} (ho : o.op = .box t x) (hx : aev T x = y) (h1 : y.one = true) : AStepD P o T H (.ptr H.next 0) (H.new (.cells t [y])) :=
  .box ho (by rw [hx]; exact one_cells h1) (by simpa using h1)
theorem AStepD.load_cel_ip {P : Program} {o : Oper} {T : Fr} {H : AHeap} {TT : Nat → TI} (hT : TOk P TT) {α : Type} [Cel α] {t : TypeId} {x : Operand} {a : α} {r : List AV} {k : Nat} (ho : o.op = .load t x) (hx : aev T x = .ip (c a ++ r)) (hag : (TT t).agg = true) (hok : (TT t).ok = true)
    (hs : (TT t).size = k) (hk : k = Cel.n α) : AStepD P o T H (.agg (c a)) H := by
  subst hk
  have h := Cel.len a
  exact .load_agg_ip hT ho hx hag hok hs (by rw [List.length_append]; omega) (by rw [List.take_append_of_le_length (by omega), List.take_of_length_le (by omega)])
/-- An element out of memory that is written. -/
theorem AStepD.load_cel {P : Program} {o : Oper} {T : Fr} {H : AHeap} {TT : Nat → TI} (hT : TOk P TT) {α : Type} [Cel α] {t ty : TypeId} {x : Operand} {l : List α} {i L off k : Nat} (ho : o.op = .load t x) (hx : aev T x = .ptr L off) (hag : (TT t).agg = true) (hH : H.get L = some (.cells ty (flat l))) (hok : (TT t).ok = true)
    (hs : (TT t).size = k) (hk : k = Cel.n α) (hoff : off = i * Cel.n α) (hi : i < l.length) : AStepD P o T H (.agg (c l[i])) H := by
  subst hk; subst hoff
  have h1 : (i + 1) * Cel.n α ≤ l.length * Cel.n α := Nat.mul_le_mul_right _ hi
  rw [Nat.succ_mul] at h1
  exact .load_agg hT ho hx hag hH hok hs (by rw [flat_length]; omega) (flat_at l i hi)
section
variable {P : Program} {o : Oper} {T : Fr} {H : AHeap} {TT : Nat → TI} (hT : TOk P TT) {α : Type} [Cel α] {t e : TypeId} {x h : Operand} {n b k : Nat} {l : List α} {kh : IntKind} {eh : Int}
include hT
theorem AStepD.slice_flat_to (ho : o.op = .slice t x none (some h) none) (hx : aev T x = .vec n (flat l)) (hn : n = l.length) (hok : (TT t).ok = true) (hu : (TT t).und = .slice e) (hoke : (TT e).ok = true) (hk : (TT e).size = k) (hkn : k = Cel.n α)
    (bh : aev T h = .v (.int kh eh)) (hh : eh = (b : Int)) (h2 : b ≤ l.length) : AStepD P o T H (vecA (l.take b)) H := by
  subst hkn; subst hn
  have := AStepD.slice_vec' hT (H := H) (m := b) (cs' := flat (l.take b)) ho hx hok hu hoke hk (bl := rfl) (bh := bh) (l := 0) (h := b) rfl hh (Nat.zero_le _) h2 (by omega) (by rw [Nat.sub_zero, Nat.zero_mul, List.drop_zero, flat_take])
  have e : (l.take b).length = b := by rw [List.length_take]; omega
  show AStepD P o T H (.vec (l.take b).length (flat (l.take b))) H
  rw [e]; exact this
theorem AStepD.slice_flat_from (ho : o.op = .slice t x (some h) none none) (hx : aev T x = .vec n (flat l)) (hn : n = l.length) (hok : (TT t).ok = true) (hu : (TT t).und = .slice e) (hoke : (TT e).ok = true) (hk : (TT e).size = k) (hkn : k = Cel.n α)
    (bh : aev T h = .v (.int kh eh)) (hh : eh = (b : Int)) (h2 : b ≤ l.length) : AStepD P o T H (vecA (l.drop b)) H := by
  subst hkn; subst hn
  have := AStepD.slice_vec' hT (H := H) (m := l.length - b) (cs' := flat (l.drop b)) ho hx hok hu hoke hk (bl := bh) (bh := rfl) (l := b) (h := l.length) hh rfl h2 (Nat.le_refl _) rfl (by
    rw [flat_drop, List.take_of_length_le]; rw [flat_length, List.length_drop]; exact Nat.le_refl _)
  show AStepD P o T H (.vec (l.drop b).length (flat (l.drop b))) H
  rw [List.length_drop]; exact this
end
theorem SubV.tup2 {a b a' b' : AV} (h1 : SubV a a') (h2 : SubV b b') : SubV (.tup [a, b]) (.tup [a', b']) := fun ρ I u h => by
  cases h with
  | @tup _ vs hl hv =>
    refine .tup (by simpa using hl) fun i x y hx hy => ?_
    match i with
    | 0 => simp only [List.getElem?_cons_zero, Option.some.injEq] at hx; subst hx; exact h1 ρ I y (hv 0 a y rfl hy)
    | 1 => simp only [List.getElem?_cons_succ, List.getElem?_cons_zero, Option.some.injEq] at hx; subst hx; exact h2 ρ I y (hv 1 b y rfl hy)
    | i + 2 => simp at hx
theorem SubV.nil_vecA {α : Type} [Cel α] : SubV (.v (.slice none 0 0)) (vecA ([] : List α)) := SubV.nil_vec
/-- A slice that is built and only read. -/
theorem AStepD.vec_flat {P : Program} {o : Oper} {T : Fr} {H : AHeap} {α : Type} [Cel α] {l : List α} {e : TypeId} {n k : Nat} {cs : List AV} (h : AStepD P o T H (.sl H.next 0 n k) (H.new (.cells e cs))) (hc : cs = flat l) (hn : n = l.length) (hk : k = Cel.n α) : AStepD P o T H (vecA l) H := by
  subst hc; subst hn; subst hk
  refine AStepD.frz_quiet h (AHeap.get_new_same _ _) ?_ (vecA_plain l) (Keep.del (Keep.new (Keep.refl _)) (Nat.le_refl _))
  have := Frz.sl (l := H.next) (cs := flat l) (off := 0) (len := l.length) (k := Cel.n α) (by rw [flat_length]; omega)
  rwa [List.drop_zero, ← flat_length, List.take_of_length_le (Nat.le_refl _)] at this
section
variable {P : Program} {o : Oper} {T : Fr} {H : AHeap} {TT : Nat → TI} (hT : TOk P TT) {α : Type} [Cel α]
include hT
/-- A list appended to one in memory of its own. -/
theorem AStepD.app_flat {t t2 e : TypeId} {x z : Operand} {L n k bk : Nat} {xs ys : List α} (ho : o.op = .call { callee := .builtin .append, args := #[x, z], argTypes := #[t, t2] }) (hx : aev T x = .sl L 0 n k) (hz : aev T z = vecA ys) (hok : (TT t).ok = true) (hu : (TT t).und = .slice e) (hok2 : (TT t2).ok = true) (hu2 : (TT t2).und = .slice e)
    (hoke : (TT e).ok = true) (hk : (TT e).size = k) (hkn : k = Cel.n α) (hbk : Nat.ble (TT e).bytes bk = true) (hH : H.get L = some (.cells e (flat xs))) (hn : n = xs.length) (hb : (xs.length + ys.length) * bk ≤ 140737488355328) (hm : xs.length + ys.length ≤ 9223372036854775807) :
    AStepD P o T H (.sl H.next 0 (xs ++ ys).length k) ((H.new (.cells e (flat (xs ++ ys)))).del L) := by
  subst hkn; subst hn
  have := AStepD.append' (bk := bk) (m := (xs ++ ys).length) (zs := flat (xs ++ ys)) hT ho hx hz hok hu hok2 hu2 hoke hk hbk hH rfl (flat_length xs) .vec (flat_length ys) (flat_ones ys) hb hm (by simp) (flat_append xs ys).symm
  exact this
theorem AStepD.app_vecA {t t2 e : TypeId} {x z : Operand} {L n k bk : Nat} {xs ys : List α} (ho : o.op = .call { callee := .builtin .append, args := #[x, z], argTypes := #[t, t2] }) (hx : aev T x = .sl L 0 n k) (hz : aev T z = vecA ys) (hok : (TT t).ok = true) (hu : (TT t).und = .slice e) (hok2 : (TT t2).ok = true) (hu2 : (TT t2).und = .slice e)
    (hoke : (TT e).ok = true) (hk : (TT e).size = k) (hkn : k = Cel.n α) (hbk : Nat.ble (TT e).bytes bk = true) (hH : H.get L = some (.cells e (flat xs))) (hn : n = xs.length) (hb : (xs.length + ys.length) * bk ≤ 140737488355328) (hm : xs.length + ys.length ≤ 9223372036854775807) :
    AStepD P o T H (vecA (xs ++ ys)) (H.del L) := by
  subst hkn; subst hn
  have := AStepD.append_vec (bk := bk) (m := (xs ++ ys).length) (zs := flat (xs ++ ys)) hT ho hx hz hok hu hok2 hu2 hoke hk hbk hH rfl (flat_length xs) .vec (flat_length ys) (flat_ones ys) hb hm (by simp) (flat_append xs ys).symm (flat_plain _)
  exact this
end
end Go.Ax
