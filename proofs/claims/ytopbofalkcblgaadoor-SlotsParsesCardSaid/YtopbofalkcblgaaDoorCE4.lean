/- The abstract layer, part 34: lists of rows of plain values, flat. -/
import Derived.Test.YtopbofalkcblgaaDoorCE3
import Derived.Shelf.GgSortFunc.RowK
set_option linter.unusedSimpArgs false
set_option linter.unusedVariables false
namespace Go.Ax
open Cel (c)
set_option linter.unusedSectionVars false
variable [Tabs]
open Go

theorem fm_length {α β : Type} {f : α → List β} {k : Nat} (hf : ∀ a, (f a).length = k) (l : List α) : (l.flatMap f).length = l.length * k := by
  induction l with
  | nil => simp
  | cons a r ih => rw [List.flatMap_cons, List.length_append, ih, hf, List.length_cons, Nat.succ_mul]; omega
theorem fm_get {α β : Type} {f : α → List β} {k : Nat} (hf : ∀ a, (f a).length = k) : ∀ (l : List α) (i j : Nat) (hi : i < l.length), j < k → (l.flatMap f)[i * k + j]? = (f l[i])[j]?
  | a :: r, 0, j, _, hj => by rw [Nat.zero_mul, Nat.zero_add, List.flatMap_cons, List.getElem?_append_left (by rw [hf]; exact hj)]; rfl
  | a :: r, i + 1, j, hi, hj => by
    rw [List.flatMap_cons, List.getElem?_append_right (by rw [hf, Nat.succ_mul]; omega), hf, show (i + 1) * k + j - k = i * k + j by rw [Nat.succ_mul]; omega]
    exact fm_get hf r i j (by simpa using hi) hj

theorem flatK_list {α : Type} [Inhabited α] {f : α → List Value} {k : Nat} (hf : ∀ a, (f a).length = k) (d : Array α) : (Sort.flatK f k d).toList = d.toList.flatMap f := by
  apply List.ext_getElem?
  intro t
  by_cases ht : t < d.size * k
  · have k0 : 0 < k := by rcases Nat.eq_zero_or_pos k with h | h; · subst h; simp at ht
                          · exact h
    have hi : t / k < d.toList.length := by rw [Array.length_toList]; exact Nat.div_lt_of_lt_mul (by rw [Nat.mul_comm]; exact ht)
    have hm : t % k < k := Nat.mod_lt _ k0
    have e := fm_get hf d.toList (t / k) (t % k) hi hm
    rw [show t / k * k + t % k = t by rw [Nat.mul_comm]; exact Nat.div_add_mod t k] at e
    have hi' : t / k < d.size := by simpa using hi
    rw [e]
    simp only [Sort.flatK, Array.getElem?_toList]
    rw [Array.getElem?_map, Array.getElem?_eq_getElem (by simpa using ht)]
    simp only [Array.getElem_range, Option.map_some]
    rw [getElem!_pos d _ hi', getElem!_pos _ _ (by rw [hf]; exact hm), List.getElem?_eq_getElem (by rw [hf]; exact hm)]
    simp only [Array.getElem_toList]
  · rw [List.getElem?_eq_none (by simp [Sort.flatK]; omega), List.getElem?_eq_none (by rw [fm_length hf, Array.length_toList]; omega)]

theorem amap_nil {T : Fr} : ([] : List Operand).map (aev T) = [] := rfl
theorem amap_cons {T : Fr} {x : Operand} {xs : List Operand} {y : AV} {ys : List AV} (h : aev T x = y) (ht : xs.map (aev T) = ys) : (x :: xs).map (aev T) = y :: ys := by subst h; subst ht; rfl
theorem AStepD.box1 {P : Program} {o : Oper} {T : Fr} {H : AHeap} {t : TypeId} {x : Operand} {y : AV} (ho : o.op = .box t x) (hx : aev T x = y) (h1 : y.one = true) : AStepD P o T H (.ptr H.next 0) (H.new (.cells t [y])) :=
  .box ho (by rw [hx]; exact one_cells h1) (by simpa using h1)
theorem AStepD.load_cel_ip {P : Program} {o : Oper} {T : Fr} {H : AHeap} {TT : Nat → TI} (hT : TOk P TT) {α : Type} [Cel α] {t : TypeId} {x : Operand} {a : α} {r : List AV} {k : Nat} (ho : o.op = .load t x) (hx : aev T x = .ip (c a ++ r)) (hag : (TT t).agg = true) (hok : (TT t).ok = true)
    (hs : (TT t).size = k) (hk : k = Cel.n α) : AStepD P o T H (.agg (c a)) H := by
  subst hk
  have h := Cel.len a
  exact .load_agg_ip hT ho hx hag hok hs (by rw [List.length_append]; omega) (by rw [List.take_append_of_le_length (by omega), List.take_of_length_le (by omega)])
/-- An element out of memory that is written. -/
theorem AStepD.load_cel {P : Program} {o : Oper} {T : Fr} {H : AHeap} {TT : Nat → TI} (hT : TOk P TT) {α : Type} [Cel α] {t ty : TypeId} {x : Operand} {l : List α} {i L off k : Nat} (ho : o.op = .load t x) (hx : aev T x = .ptr L off) (hag : (TT t).agg = true) (hH : H.get L = some (.cells ty (flat l))) (hok : (TT t).ok = true)
    (hs : (TT t).size = k) (hk : k = Cel.n α) (hoff : off = i * Cel.n α) (hi : i < l.length) : AStepD P o T H (.agg (c l[i])) H := by
  subst hk; subst hoff
  have h1 : (i + 1) * Cel.n α ≤ l.length * Cel.n α := Nat.mul_le_mul_right _ hi
  rw [Nat.succ_mul] at h1
  exact .load_agg hT ho hx hag hH hok hs (by rw [flat_length]; omega) (flat_at l i hi)
section
variable {P : Program} {o : Oper} {T : Fr} {H : AHeap} {TT : Nat → TI} (hT : TOk P TT) {α : Type} [Cel α] {t e : TypeId} {x h : Operand} {n b k : Nat} {l : List α} {kh : IntKind} {eh : Int}
include hT
theorem AStepD.slice_flat_to (ho : o.op = .slice t x none (some h) none) (hx : aev T x = .vec n (flat l)) (hn : n = l.length) (hok : (TT t).ok = true) (hu : (TT t).und = .slice e) (hoke : (TT e).ok = true) (hk : (TT e).size = k) (hkn : k = Cel.n α)
    (bh : aev T h = .v (.int kh eh)) (hh : eh = (b : Int)) (h2 : b ≤ l.length) : AStepD P o T H (vecA (l.take b)) H := by
  subst hkn; subst hn
  have := AStepD.slice_vec' hT (H := H) (m := b) (cs' := flat (l.take b)) ho hx hok hu hoke hk (bl := rfl) (bh := bh) (l := 0) (h := b) rfl hh (Nat.zero_le _) h2 (by omega) (by rw [Nat.sub_zero, Nat.zero_mul, List.drop_zero, flat_take])
  have e : (l.take b).length = b := by rw [List.length_take]; omega
  show AStepD P o T H (.vec (l.take b).length (flat (l.take b))) H
  rw [e]; exact this
theorem AStepD.slice_flat_from (ho : o.op = .slice t x (some h) none none) (hx : aev T x = .vec n (flat l)) (hn : n = l.length) (hok : (TT t).ok = true) (hu : (TT t).und = .slice e) (hoke : (TT e).ok = true) (hk : (TT e).size = k) (hkn : k = Cel.n α)
    (bh : aev T h = .v (.int kh eh)) (hh : eh = (b : Int)) (h2 : b ≤ l.length) : AStepD P o T H (vecA (l.drop b)) H := by
  subst hkn; subst hn
  have := AStepD.slice_vec' hT (H := H) (m := l.length - b) (cs' := flat (l.drop b)) ho hx hok hu hoke hk (bl := bh) (bh := rfl) (l := b) (h := l.length) hh rfl h2 (Nat.le_refl _) rfl (by
    rw [flat_drop, List.take_of_length_le]; rw [flat_length, List.length_drop]; exact Nat.le_refl _)
  show AStepD P o T H (.vec (l.drop b).length (flat (l.drop b))) H
  rw [List.length_drop]; exact this
end
theorem SubV.tup2 {a b a' b' : AV} (h1 : SubV a a') (h2 : SubV b b') : SubV (.tup [a, b]) (.tup [a', b']) := fun ρ I u h => by
  cases h with
  | @tup _ vs hl hv =>
    refine .tup (by simpa using hl) fun i x y hx hy => ?_
    match i with
    | 0 => simp only [List.getElem?_cons_zero, Option.some.injEq] at hx; subst hx; exact h1 ρ I y (hv 0 a y rfl hy)
    | 1 => simp only [List.getElem?_cons_succ, List.getElem?_cons_zero, Option.some.injEq] at hx; subst hx; exact h2 ρ I y (hv 1 b y rfl hy)
    | i + 2 => simp at hx
theorem SubV.nil_vecA {α : Type} [Cel α] : SubV (.v (.slice none 0 0)) (vecA ([] : List α)) := SubV.nil_vec
/-- A slice that is built and only read. -/
theorem AStepD.vec_flat {P : Program} {o : Oper} {T : Fr} {H : AHeap} {α : Type} [Cel α] {l : List α} {e : TypeId} {n k : Nat} {cs : List AV} (h : AStepD P o T H (.sl H.next 0 n k) (H.new (.cells e cs))) (hc : cs = flat l) (hn : n = l.length) (hk : k = Cel.n α) : AStepD P o T H (vecA l) H := by
  subst hc; subst hn; subst hk
  refine AStepD.frz_quiet h (AHeap.get_new_same _ _) ?_ (vecA_plain l) (Keep.del (Keep.new (Keep.refl _)) (Nat.le_refl _))
  have := Frz.sl (l := H.next) (cs := flat l) (off := 0) (len := l.length) (k := Cel.n α) (by rw [flat_length]; omega)
  rwa [List.drop_zero, ← flat_length, List.take_of_length_le (Nat.le_refl _)] at this
section
variable {P : Program} {o : Oper} {T : Fr} {H : AHeap} {TT : Nat → TI} (hT : TOk P TT) {α : Type} [Cel α]
include hT
/-- A list appended to one in memory of its own. -/
theorem AStepD.app_flat {t t2 e : TypeId} {x z : Operand} {L n k bk : Nat} {xs ys : List α} (ho : o.op = .call { callee := .builtin .append, args := #[x, z], argTypes := #[t, t2] }) (hx : aev T x = .sl L 0 n k) (hz : aev T z = vecA ys) (hok : (TT t).ok = true) (hu : (TT t).und = .slice e) (hok2 : (TT t2).ok = true) (hu2 : (TT t2).und = .slice e)
    (hoke : (TT e).ok = true) (hk : (TT e).size = k) (hkn : k = Cel.n α) (hbk : Nat.ble (TT e).bytes bk = true) (hH : H.get L = some (.cells e (flat xs))) (hn : n = xs.length) (hb : (xs.length + ys.length) * bk ≤ 140737488355328) (hm : xs.length + ys.length ≤ 9223372036854775807) :
    AStepD P o T H (.sl H.next 0 (xs ++ ys).length k) ((H.new (.cells e (flat (xs ++ ys)))).del L) := by
  subst hkn; subst hn
  have := AStepD.append' (bk := bk) (m := (xs ++ ys).length) (zs := flat (xs ++ ys)) hT ho hx hz hok hu hok2 hu2 hoke hk hbk hH rfl (flat_length xs) .vec (flat_length ys) (flat_ones ys) hb hm (by simp) (flat_append xs ys).symm
  exact this
theorem AStepD.app_vecA {t t2 e : TypeId} {x z : Operand} {L n k bk : Nat} {xs ys : List α} (ho : o.op = .call { callee := .builtin .append, args := #[x, z], argTypes := #[t, t2] }) (hx : aev T x = .sl L 0 n k) (hz : aev T z = vecA ys) (hok : (TT t).ok = true) (hu : (TT t).und = .slice e) (hok2 : (TT t2).ok = true) (hu2 : (TT t2).und = .slice e)
    (hoke : (TT e).ok = true) (hk : (TT e).size = k) (hkn : k = Cel.n α) (hbk : Nat.ble (TT e).bytes bk = true) (hH : H.get L = some (.cells e (flat xs))) (hn : n = xs.length) (hb : (xs.length + ys.length) * bk ≤ 140737488355328) (hm : xs.length + ys.length ≤ 9223372036854775807) :
    AStepD P o T H (vecA (xs ++ ys)) (H.del L) := by
  subst hkn; subst hn
  have := AStepD.append_vec (bk := bk) (m := (xs ++ ys).length) (zs := flat (xs ++ ys)) hT ho hx hz hok hu hok2 hu2 hoke hk hbk hH rfl (flat_length xs) .vec (flat_length ys) (flat_ones ys) hb hm (by simp) (flat_append xs ys).symm (flat_plain _)
  exact this
end
end Go.Ax

/- The abstract layer, part 35: unsigned numbers of 64 bits as bit vectors. -/

namespace Go.Ax
open Cel (c)
set_option linter.unusedSectionVars false
variable [Tabs]
variable {md : Md}

/-- A number of 64 bits. -/
abbrev u64A (a : BitVec 64) : AV := .v (.int .u64 (a.toNat : Nat))

theorem wrap_u64 (a : BitVec 64) : IntKind.u64.wrap (a.toNat : Nat) = (a.toNat : Nat) := by
  have := a.isLt
  simp [IntKind.wrap, IntKind.signed, IntKind.bits]
  omega
theorem ofInt_toNat (a : BitVec 64) : BitVec.ofInt 64 (a.toNat : Nat) = a := by
  apply BitVec.eq_of_toNat_eq
  simp

section
variable {P : Program} {o : Oper} {T : Fr} {H : AHeap} {t yt : TypeId} {x y : Operand} {a b : BitVec 64}
theorem AStepD.bv_or (ho : o.op = .binOp .or t x y yt) (hx : aev T x = u64A a) (hy : aev T y = u64A b) : AStepD P o T H (u64A (a ||| b)) H :=
  .bits ho (by simp) hx hy (by
    show IntKind.u64.wrap ((BitVec.ofInt 64 _ ||| BitVec.ofInt 64 _).toNat : Nat) = _
    rw [ofInt_toNat, ofInt_toNat, wrap_u64])
theorem AStepD.bv_and (ho : o.op = .binOp .and t x y yt) (hx : aev T x = u64A a) (hy : aev T y = u64A b) : AStepD P o T H (u64A (a &&& b)) H :=
  .bits ho (by simp) hx hy (by
    show IntKind.u64.wrap ((BitVec.ofInt 64 _ &&& BitVec.ofInt 64 _).toNat : Nat) = _
    rw [ofInt_toNat, ofInt_toNat, wrap_u64])
theorem AStepD.bv_shl {k : IntKind} {i : Nat} (ho : o.op = .binOp .shl t x y yt) (hx : aev T x = u64A a) (hy : aev T y = .v (.int k (i : Nat))) : AStepD P o T H (u64A (a <<< i)) H :=
  .shl ho hx hy (by omega) (by
    show IntKind.u64.wrap ((a.toNat : Nat) * 2 ^ min ((i : Nat) : Int).toNat 64) = _
    have e : ((a.toNat : Nat) * 2 ^ min ((i : Nat) : Int).toNat 64 : Int) = ((a.toNat * 2 ^ min i 64 : Nat) : Int) := by simp
    rw [e]
    simp only [IntKind.wrap, IntKind.signed, IntKind.bits, BitVec.toNat_shiftLeft, Nat.shiftLeft_eq]
    simp only [Bool.false_and, Bool.false_eq_true, if_false]
    rcases Nat.le_total i 64 with h | h
    · rw [Nat.min_eq_left h]; omega
    · rw [Nat.min_eq_right h]
      have h2 : 2 ^ i = 2 ^ 64 * 2 ^ (i - 64) := by rw [← Nat.pow_add]; congr 1; omega
      rw [h2, ← Nat.mul_assoc, Nat.mul_comm a.toNat, Nat.mul_assoc, Nat.mul_mod_right]
      omega)
theorem AStepD.bv_shr {k : IntKind} {i : Nat} (ho : o.op = .binOp .shr t x y yt) (hx : aev T x = u64A a) (hy : aev T y = .v (.int k (i : Nat))) : AStepD P o T H (u64A (a >>> i)) H :=
  .shr ho hx hy (by omega) (by
    show ((a.toNat : Nat) : Int).fdiv (2 ^ min ((i : Nat) : Int).toNat 64) = _
    have e : ((2 : Int) ^ min ((i : Nat) : Int).toNat 64) = ((2 ^ min i 64 : Nat) : Int) := by simp
    rw [e, ← Int.ofNat_fdiv, BitVec.toNat_ushiftRight, Nat.shiftRight_eq_div_pow]
    congr 1
    rcases Nat.le_total i 64 with h | h
    · rw [Nat.min_eq_left h]
    · rw [Nat.min_eq_right h, Nat.div_eq_of_lt a.isLt, Nat.div_eq_of_lt]
      exact Nat.lt_of_lt_of_le a.isLt (Nat.pow_le_pow_right (by decide) h))
/-- The lowest bit is struck: what is taken away first. -/
theorem AStepD.bv_pred (ho : o.op = .binOp .sub t x y yt) (hx : aev T x = u64A a) (hy : aev T y = .v (.int .u64 1)) (h0 : a ≠ 0#64) : AStepD P o T H (u64A (a - 1#64)) H := by
  have hn : 1 ≤ a.toNat := by
    rcases Nat.eq_zero_or_pos a.toNat with h | h
    · exact absurd (BitVec.eq_of_toNat_eq (by simpa using h)) h0
    · exact h
  have := a.isLt
  refine .sub ho hx hy ?_
  simp only [IntKind.wrap, IntKind.signed, IntKind.bits, BitVec.toNat_sub]
  simp
  omega
end

/-- Equality of numbers. -/
theorem bv_eq (a b : BitVec 64) : decide ((a.toNat : Int) = (b.toNat : Int)) = decide (a = b) := by
  rw [decide_eq_decide]
  constructor
  · intro h; exact BitVec.eq_of_toNat_eq (by exact_mod_cast h)
  · rintro rfl; rfl
theorem bv_bit (a : BitVec 64) (i : Nat) : decide ((((a >>> i) &&& 1#64).toNat : Int) = 1) = a.getLsbD i := by
  have h : ((a >>> i) &&& 1#64).toNat = (a.getLsbD i).toNat := by
    rw [BitVec.toNat_and, BitVec.toNat_ushiftRight, BitVec.toNat_ofNat, BitVec.getLsbD]
    rw [show 1 % 2 ^ 64 = 1 from rfl, Nat.and_one_is_mod, Nat.testBit_eq_decide_div_mod_eq, Nat.shiftRight_eq_div_pow]
    rcases Nat.mod_two_eq_zero_or_one (a.toNat / 2 ^ i) with h | h <;> simp [h]
  rw [h]
  cases a.getLsbD i <;> simp
end Go.Ax

/- The abstract layer, part 36: rows stored and loaded whole. -/

namespace Go.Ax
open Cel (c)
set_option linter.unusedSectionVars false
variable [Tabs]
open Go
section
variable {P : Program} {o : Oper} {T : Fr} {H : AHeap} {TT : Nat → TI} (hT : TOk P TT) {α : Type} [Cel α] {l : List α}
include hT
theorem AStepD.store_row {t : TypeId} {x y : Operand} {L k : Nat} {ty : TypeId} {cs : List AV} (ho : o.op = .store t x y) (hx : aev T x = .ptr L 0) (hH : H.get L = some (.cells ty cs)) (hy : aev T y = .agg (flat l)) (hok : (TT t).ok = true)
    (hkk : Nat.beq (TT t).size k = true) (hl : (flat l).length = k) (hcs : cs.length = k) : AStepD P o T H .any (H.set L (.cells ty (flat l))) :=
  AStepD.store' hT ho hx hH hy rfl (flat_ones l) hok hl hkk (by omega) (show over cs 0 (flat l) = flat l by
    unfold over
    rw [List.take_zero, List.nil_append, Nat.zero_add, List.drop_of_length_le (by omega), List.append_nil])
theorem AStepD.load_row {t : TypeId} {x : Operand} {L k : Nat} {ty : TypeId} (ho : o.op = .load t x) (hx : aev T x = .ptr L 0) (hag : (TT t).agg = true) (hH : H.get L = some (.cells ty (flat l))) (hok : (TT t).ok = true)
    (hs : (TT t).size = k) (hl : (flat l).length = k) : AStepD P o T H (.agg (flat l)) H :=
  AStepD.load_agg hT ho hx hag hH hok hs (by omega) (by rw [List.drop_zero, List.take_of_length_le (by omega)])
theorem AStepD.box_row {t : TypeId} {x : Operand} (ho : o.op = .box t x) (hx : aev T x = .agg (flat l)) : AStepD P o T H (.ptr H.next 0) (H.new (.cells t (flat l))) :=
  .box ho (by rw [hx]; rfl) (flat_ones l)
/-- One cell out of a row of cells in memory. -/
theorem AStepD.load_cellAt {t : TypeId} {x : Operand} {L off : Nat} {ty : TypeId} {cs : List AV} {y : AV} (ho : o.op = .load t x) (hx : aev T x = .ptr L off) (hag : (TT t).agg = false) (hs : Nat.beq (TT t).size 1 = true) (hH : H.get L = some (.cells ty cs)) (hok : (TT t).ok = true)
    (hv : (cs.drop off).take 1 = [y]) : AStepD P o T H y H :=
  AStepD.load_one hT ho hx hag hs hH hok (by
    have := congrArg (fun q => q[0]?) hv
    simpa [List.getElem?_take, List.getElem?_drop] using this)
end
end Go.Ax
