/- The abstract layer, part 34: lists of rows of plain values, flat. -/
import Derived.Test.YtbcanlmpfhkklaaGreatDoorCE3
import Derived.Shelf.GgSortFunc.RowK
import Derived.Lib.Builder
import Derived.Lib.UnsafeStr
import Derived.Shelf.Slices.Cells
import Derived.Lib.RowBridge
import Derived.ChangeKeysEq
set_option linter.unusedSimpArgs false
set_option linter.unusedVariables false
namespace Go.Ax
open Cel (c)
set_option linter.unusedSectionVars false
variable [Tabs]
open Go

theorem amap_nil {T : Fr} : ([] : List Operand).map (aev T) = [] := rfl
theorem amap_cons {T : Fr} {x : Operand} {xs : List Operand} {y : AV} {ys : List AV} (h : aev T x = y) (ht : xs.map (aev T) = ys) : (x :: xs).map (aev T) = y :: ys := by subst h; subst ht; rfl
theorem AStepD.box1 {P : Program} {o : Oper} {T : Fr} {H : AHeap} {t : TypeId} {x : Operand} {y : AV} (ho : o.op = .box t x) (hx : aev T x = y) (h1 : y.one = true) : AStepD P o T H (.ptr H.next 0) (H.new (.cells t [y])) :=
  .box ho (by rw [hx]; exact one_cells h1) (by simpa using h1)
theorem AStepD.load_cel_ip {P : Program} {o : Oper} {T : Fr} {H : AHeap} {TT : Nat → TI} (hT : TOk P TT) {α : Type} [Cel α] {t : TypeId} {x : Operand} {a : α} {r : List AV} {k : Nat} (ho : o.op = .load t x) (hx : aev T x = .ip (c a ++ r)) (hag : (TT t).agg = true) (hok : (TT t).ok = true)
    (hs : (TT t).size = k) (hk : k = Cel.n α) : AStepD P o T H (.agg (c a)) H := by
  subst hk
  have h := Cel.len a
  exact .load_agg_ip hT ho hx hag hok hs (by rw [List.length_append]; omega) (by rw [List.take_append_of_le_length (by omega), List.take_of_length_le (by omega)])
section
variable {P : Program} {o : Oper} {T : Fr} {H : AHeap} {TT : Nat → TI} (hT : TOk P TT) {α : Type} [Cel α] {t e : TypeId} {x h : Operand} {n b k : Nat} {l : List α} {kh : IntKind} {eh : Int}
include hT
theorem AStepD.slice_flat_to (ho : o.op = .slice t x none (some h) none) (hx : aev T x = .vec n (flat l)) (hn : n = l.length) (hok : (TT t).ok = true) (hu : (TT t).und = .slice e) (hoke : (TT e).ok = true) (hk : (TT e).size = k) (hkn : k = Cel.n α)
    (bh : aev T h = .v (.int kh eh)) (hh : eh = (b : Int)) (h2 : b ≤ l.length) : AStepD P o T H (vecA (l.take b)) H := by
  subst hkn; subst hn
  have := AStepD.slice_vec' hT (H := H) (m := b) (cs' := flat (l.take b)) ho hx hok hu hoke hk (bl := rfl) (bh := bh) (l := 0) (h := b) rfl hh (Nat.zero_le _) h2 (by omega) (by rw [Nat.sub_zero, Nat.zero_mul, List.drop_zero, flat_take])
  have e : (l.take b).length = b := by rw [List.length_take]; omega
  show AStepD P o T H (.vec (l.take b).length (flat (l.take b))) H
  rw [e]; exact this
theorem AStepD.slice_flat_from (ho : o.op = .slice t x (some h) none none) (hx : aev T x = .vec n (flat l)) (hn : n = l.length) (hok : (TT t).ok = true) (hu : (TT t).und = .slice e) (hoke : (TT e).ok = true) (hk : (TT e).size = k) (hkn : k = Cel.n α)
    (bh : aev T h = .v (.int kh eh)) (hh : eh = (b : Int)) (h2 : b ≤ l.length) : AStepD P o T H (vecA (l.drop b)) H := by
  subst hkn; subst hn
  have := AStepD.slice_vec' hT (H := H) (m := l.length - b) (cs' := flat (l.drop b)) ho hx hok hu hoke hk (bl := bh) (bh := rfl) (l := b) (h := l.length) hh rfl h2 (Nat.le_refl _) rfl (by
    rw [flat_drop, List.take_of_length_le]; rw [flat_length, List.length_drop]; exact Nat.le_refl _)
  show AStepD P o T H (.vec (l.drop b).length (flat (l.drop b))) H
  rw [List.length_drop]; exact this
end
theorem SubV.tup2 {a b a' b' : AV} (h1 : SubV a a') (h2 : SubV b b') : SubV (.tup [a, b]) (.tup [a', b']) := fun ρ I u h => by
  cases h with
  | @tup _ vs hl hv =>
    refine .tup (by simpa using hl) fun i x y hx hy => ?_
    match i with
    | 0 => simp only [List.getElem?_cons_zero, Option.some.injEq] at hx; subst hx; exact h1 ρ I y (hv 0 a y rfl hy)
    | 1 => simp only [List.getElem?_cons_succ, List.getElem?_cons_zero, Option.some.injEq] at hx; subst hx; exact h2 ρ I y (hv 1 b y rfl hy)
    | i + 2 => simp at hx
theorem SubV.nil_vecA {α : Type} [Cel α] : SubV (.v (.slice none 0 0)) (vecA ([] : List α)) := SubV.nil_vec
theorem AStepD.vec_flat {P : Program} {o : Oper} {T : Fr} {H : AHeap} {α : Type} [Cel α] {l : List α} {e : TypeId} {n k : Nat} {cs : List AV} (h : AStepD P o T H (.sl H.next 0 n k) (H.new (.cells e cs))) (hc : cs = flat l) (hn : n = l.length) (hk : k = Cel.n α) : AStepD P o T H (vecA l) H := by
  subst hc; subst hn; subst hk
  refine AStepD.frz_quiet h (AHeap.get_new_same _ _) ?_ (vecA_plain l) (Keep.del (Keep.new (Keep.refl _)) (Nat.le_refl _))
  have := Frz.sl (l := H.next) (cs := flat l) (off := 0) (len := l.length) (k := Cel.n α) (by rw [flat_length]; omega)
  rwa [List.drop_zero, ← flat_length, List.take_of_length_le (Nat.le_refl _)] at this
section
variable {P : Program} {o : Oper} {T : Fr} {H : AHeap} {TT : Nat → TI} (hT : TOk P TT) {α : Type} [Cel α]
include hT
end
end Go.Ax

/- The abstract layer, part 35: unsigned numbers of 64 bits as bit vectors. -/

namespace Go.Ax
open Cel (c)
set_option linter.unusedSectionVars false
variable [Tabs]
variable {md : Md}

abbrev u64A (a : BitVec 64) : AV := .v (.int .u64 (a.toNat : Nat))

theorem wrap_u64 (a : BitVec 64) : IntKind.u64.wrap (a.toNat : Nat) = (a.toNat : Nat) := by
  have := a.isLt
  simp [IntKind.wrap, IntKind.signed, IntKind.bits]
  omega
theorem ofInt_toNat (a : BitVec 64) : BitVec.ofInt 64 (a.toNat : Nat) = a := by
  apply BitVec.eq_of_toNat_eq
  simp

section
variable {P : Program} {o : Oper} {T : Fr} {H : AHeap} {t yt : TypeId} {x y : Operand} {a b : BitVec 64}
theorem AStepD.bv_or (ho : o.op = .binOp .or t x y yt) (hx : aev T x = u64A a) (hy : aev T y = u64A b) : AStepD P o T H (u64A (a ||| b)) H :=
  .bits ho (by simp) hx hy (by
    show IntKind.u64.wrap ((BitVec.ofInt 64 _ ||| BitVec.ofInt 64 _).toNat : Nat) = _
    rw [ofInt_toNat, ofInt_toNat, wrap_u64])
theorem AStepD.bv_and (ho : o.op = .binOp .and t x y yt) (hx : aev T x = u64A a) (hy : aev T y = u64A b) : AStepD P o T H (u64A (a &&& b)) H :=
  .bits ho (by simp) hx hy (by
    show IntKind.u64.wrap ((BitVec.ofInt 64 _ &&& BitVec.ofInt 64 _).toNat : Nat) = _
    rw [ofInt_toNat, ofInt_toNat, wrap_u64])
theorem AStepD.bv_shl {k : IntKind} {i : Nat} (ho : o.op = .binOp .shl t x y yt) (hx : aev T x = u64A a) (hy : aev T y = .v (.int k (i : Nat))) : AStepD P o T H (u64A (a <<< i)) H :=
  .shl ho hx hy (by omega) (by
    show IntKind.u64.wrap ((a.toNat : Nat) * 2 ^ min ((i : Nat) : Int).toNat 64) = _
    have e : ((a.toNat : Nat) * 2 ^ min ((i : Nat) : Int).toNat 64 : Int) = ((a.toNat * 2 ^ min i 64 : Nat) : Int) := by simp
    rw [e]
    simp only [IntKind.wrap, IntKind.signed, IntKind.bits, BitVec.toNat_shiftLeft, Nat.shiftLeft_eq]
    simp only [Bool.false_and, Bool.false_eq_true, if_false]
    rcases Nat.le_total i 64 with h | h
    · rw [Nat.min_eq_left h]; omega
    · rw [Nat.min_eq_right h]
      have h2 : 2 ^ i = 2 ^ 64 * 2 ^ (i - 64) := by rw [← Nat.pow_add]; congr 1; omega
      rw [h2, ← Nat.mul_assoc, Nat.mul_comm a.toNat, Nat.mul_assoc, Nat.mul_mod_right]
      omega)
theorem AStepD.bv_shr {k : IntKind} {i : Nat} (ho : o.op = .binOp .shr t x y yt) (hx : aev T x = u64A a) (hy : aev T y = .v (.int k (i : Nat))) : AStepD P o T H (u64A (a >>> i)) H :=
  .shr ho hx hy (by omega) (by
    show ((a.toNat : Nat) : Int).fdiv (2 ^ min ((i : Nat) : Int).toNat 64) = _
    have e : ((2 : Int) ^ min ((i : Nat) : Int).toNat 64) = ((2 ^ min i 64 : Nat) : Int) := by simp
    rw [e, ← Int.ofNat_fdiv, BitVec.toNat_ushiftRight, Nat.shiftRight_eq_div_pow]
    congr 1
    rcases Nat.le_total i 64 with h | h
    · rw [Nat.min_eq_left h]
    · rw [Nat.min_eq_right h, Nat.div_eq_of_lt a.isLt, Nat.div_eq_of_lt]
      exact Nat.lt_of_lt_of_le a.isLt (Nat.pow_le_pow_right (by decide) h))
theorem AStepD.bv_pred (ho : o.op = .binOp .sub t x y yt) (hx : aev T x = u64A a) (hy : aev T y = .v (.int .u64 1)) (h0 : a ≠ 0#64) : AStepD P o T H (u64A (a - 1#64)) H := by
  have hn : 1 ≤ a.toNat := by
    rcases Nat.eq_zero_or_pos a.toNat with h | h
    · exact absurd (BitVec.eq_of_toNat_eq (by simpa using h)) h0
    · exact h
  have := a.isLt
  refine .sub ho hx hy ?_
  simp only [IntKind.wrap, IntKind.signed, IntKind.bits, BitVec.toNat_sub]
  simp
  omega
end

theorem bv_eq (a b : BitVec 64) : decide ((a.toNat : Int) = (b.toNat : Int)) = decide (a = b) := by
  rw [decide_eq_decide]
  constructor
  · intro h; exact BitVec.eq_of_toNat_eq (by exact_mod_cast h)
  · rintro rfl; rfl
theorem bv_bit (a : BitVec 64) (i : Nat) : decide ((((a >>> i) &&& 1#64).toNat : Int) = 1) = a.getLsbD i := by
  have h : ((a >>> i) &&& 1#64).toNat = (a.getLsbD i).toNat := by
    rw [BitVec.toNat_and, BitVec.toNat_ushiftRight, BitVec.toNat_ofNat, BitVec.getLsbD]
    rw [show 1 % 2 ^ 64 = 1 from rfl, Nat.and_one_is_mod, Nat.testBit_eq_decide_div_mod_eq, Nat.shiftRight_eq_div_pow]
    rcases Nat.mod_two_eq_zero_or_one (a.toNat / 2 ^ i) with h | h <;> simp [h]
  rw [h]
  cases a.getLsbD i <;> simp
end Go.Ax

/- The abstract layer, part 36: rows stored and loaded whole. -/

namespace Go.Ax
open Cel (c)
set_option linter.unusedSectionVars false
variable [Tabs]
open Go
section
variable {P : Program} {o : Oper} {T : Fr} {H : AHeap} {TT : Nat → TI} (hT : TOk P TT) {α : Type} [Cel α] {l : List α}
include hT
theorem AStepD.store_row {t : TypeId} {x y : Operand} {L k : Nat} {ty : TypeId} {cs : List AV} (ho : o.op = .store t x y) (hx : aev T x = .ptr L 0) (hH : H.get L = some (.cells ty cs)) (hy : aev T y = .agg (flat l)) (hok : (TT t).ok = true)
    (hkk : Nat.beq (TT t).size k = true) (hl : (flat l).length = k) (hcs : cs.length = k) : AStepD P o T H .any (H.set L (.cells ty (flat l))) :=
  AStepD.store' hT ho hx hH hy rfl (flat_ones l) hok hl hkk (by omega) (show over cs 0 (flat l) = flat l by
    unfold over
    rw [List.take_zero, List.nil_append, Nat.zero_add, List.drop_of_length_le (by omega), List.append_nil])
theorem AStepD.load_row {t : TypeId} {x : Operand} {L k : Nat} {ty : TypeId} (ho : o.op = .load t x) (hx : aev T x = .ptr L 0) (hag : (TT t).agg = true) (hH : H.get L = some (.cells ty (flat l))) (hok : (TT t).ok = true)
    (hs : (TT t).size = k) (hl : (flat l).length = k) : AStepD P o T H (.agg (flat l)) H :=
  AStepD.load_agg hT ho hx hag hH hok hs (by omega) (by rw [List.drop_zero, List.take_of_length_le (by omega)])
theorem AStepD.box_row {t : TypeId} {x : Operand} (ho : o.op = .box t x) (hx : aev T x = .agg (flat l)) : AStepD P o T H (.ptr H.next 0) (H.new (.cells t (flat l))) :=
  .box ho (by rw [hx]; rfl) (flat_ones l)
theorem AStepD.load_cellAt {t : TypeId} {x : Operand} {L off : Nat} {ty : TypeId} {cs : List AV} {y : AV} (ho : o.op = .load t x) (hx : aev T x = .ptr L off) (hag : (TT t).agg = false) (hs : Nat.beq (TT t).size 1 = true) (hH : H.get L = some (.cells ty cs)) (hok : (TT t).ok = true)
    (hv : (cs.drop off).take 1 = [y]) : AStepD P o T H y H :=
  AStepD.load_one hT ho hx hag hs hH hok (by
    have := congrArg (fun q => q[0]?) hv
    simpa [List.getElem?_take, List.getElem?_drop] using this)
end
end Go.Ax

/- The abstract layer, part 37: structs of integers, bools and texts compared. -/

namespace Go.Ax
open Cel (c)
set_option linter.unusedSectionVars false
variable [Tabs]
open Go

section
variable {P : Program} {o : Oper} {T : Fr} {H : AHeap} {TT : Nat → TI} (hT : TOk P TT)
include hT

end
end Go.Ax

/- The abstract layer, part 38: from a law's abstract call to what its row asks, where the law's sizes lean on what came in. -/

namespace Go.Ax
open Cel (c)
set_option linter.unusedSectionVars false
variable [Tabs]
open Go
open Go.RowKit Go.ChangeShapes Go.WideShapes

section
variable {H : Type} {enc : TypeId × Value → H} {P : Program} {TT : Nat → TI} (hT : TOk P TT)
include hT

end
end Go.Ax

/- The abstract layer, part 39: a builder of texts: pointers of one place, a text's bytes appended, a row of bytes as a text; values of any type; plain lookups in maps. -/

namespace Go.Ax
open Cel (c)
set_option linter.unusedSectionVars false
variable [Tabs]
open Go
variable {md : Md}
instance : Cel UInt8 := ⟨1, fun b => [.v (.int .u8 (b.toNat : Nat))], fun _ => rfl, fun _ z h => by rw [List.mem_singleton.1 h]; rfl, fun _ z h => by rw [List.mem_singleton.1 h]; exact .v _⟩
theorem flat_bytes (l : List UInt8) : flat l = l.map fun b => .v (.int .u8 (b.toNat : Nat)) := by
  simp only [flat]
  exact (List.map_eq_flatMap ..).symm
theorem liesAt_one {P : Program} {e : TypeId} (hc : P.cellsOf e ≠ 0) (count : Nat) (hn : 1 ≤ count) : liesAt P P.depth e count 0 e 1 = true := by
  have hd : P.depth = (2 * (P.types.size + Made.depth) + 1) + 1 := rfl
  rw [hd]
  simp only [liesAt, Bool.or_eq_true]
  left
  rw [hd]
  simp [rowAt, hc, hn, sameLayout]
section
variable {P : Program} {o : Oper} {T : Fr} {H : AHeap} {TT : Nat → TI} (hT : TOk P TT)
include hT

theorem AStepD.makeIface {t : TypeId} {x : Operand} {y : AV} (ho : o.op = .makeInterface t x) (hx : aev T x = y) (hok : (TT t).ok = true) (hu : (match (TT t).und with | .interface _ => true | _ => false) = false) : AStepD P o T H (.iface t y) H := by
  subst hx
  refine AStepD.makeInterface ho fun v w => ?_
  have := (hT t hok).run_und w
  simp only [Instr.makeInterface, Sem.run_bind, this, Result.andThen]
  split
  · rename_i h; rw [h] at hu; cases hu
  · rfl
theorem AStepD.assert_yes {xt t : TypeId} {x : Operand} {y : AV} (ho : o.op = .typeAssert x xt t true) (hx : aev T x = .iface t y) (hok : (TT t).ok = true) (hu : (match (TT t).und with | .interface _ => true | _ => false) = false) : AStepD P o T H (.tup [y, .v (.bool true)]) H := by
  refine .of_pure fun ρ I w a hc ht => ?_
  have hv := aev_eq ht hx
  generalize he : a.eval x = u at hv
  cases hv with
  | @iface _ _ u hv =>
    refine ⟨.tuple #[u, .bool true], ?_, CV.tup (vs := [_, _]) rfl fun i a u ha hu => by
      match i with
      | 0 => simp at ha hu; subst ha; subst hu; exact hv
      | 1 => simp at ha hu; subst ha; subst hu; exact .v _
      | i + 2 => simp at ha⟩
    have := (hT t hok).run_und w
    simp only [execOp, ho, he, Instr.typeAssert, Sem.run_bind, this, Result.andThen]
    clear this
    generalize (TT t).und = q at hu ⊢
    cases q <;> first | (simp [Result.andThen]; done) | (simp at hu; done)
theorem AStepD.assert_no {xt t t' : TypeId} {x : Operand} {y : AV} (ho : o.op = .typeAssert x xt t true) (hx : aev T x = .iface t' y) (hne : Nat.beq t' t = false) (hok : (TT t).ok = true) (hu : (match (TT t).und with | .interface _ => true | _ => false) = false) : AStepD P o T H (.tup [.v (TT t).zero, .v (.bool false)]) H := by
  refine .of_pure fun ρ I w a hc ht => ?_
  have hv := aev_eq ht hx
  have hne : t' ≠ t := fun e => by subst e; simp at hne
  generalize he : a.eval x = u at hv
  cases hv with
  | @iface _ _ u hv =>
    refine ⟨.tuple #[(TT t).zero, .bool false], ?_, CV.tup (vs := [_, _]) rfl fun i a u ha hu => by
      match i with
      | 0 => simp at ha hu; subst ha; subst hu; exact .v _
      | 1 => simp at ha hu; subst ha; subst hu; exact .v _
      | i + 2 => simp at ha⟩
    have := (hT t hok).run_und w
    simp only [execOp, ho, he, Instr.typeAssert, Sem.run_bind, this, Result.andThen]
    clear this
    have hz := (hT t hok).run_zero w
    generalize (TT t).zero = z0 at hz ⊢
    generalize (TT t).und = q at hu ⊢
    cases q <;> first | (simp [hne, hz, Result.andThen]; done) | (simp at hu; done)
theorem AStepD.lookup1 {t kt et : TypeId} {x y : Operand} {l : Nat} {k : IntKind} {n : Int} {es : List (Int × AV)} {z : AV} (ho : o.op = .lookup t x y false) (hx : aev T x = .map l) (hy : aev T y = .v (.int k n)) (hok : (TT t).ok = true) (hu : (TT t).und = .map kt et)
    (hokk : (TT kt).ok = true) (huk : (TT kt).und = .int k) (hoke : (TT et).ok = true) (hH : H.get l = some (.map (imap k es))) (hg : (getI es n).getD (.v (TT et).zero) = z) : AStepD P o T H z H := by
  subst hg
  refine .of_pure fun ρ I w a hc ht => ?_
  have hv := aev_eq ht hx
  have hyv := cv_v (aev_eq ht hy)
  generalize he : a.eval x = u at hv
  cases hv with
  | @map _ B hB =>
    obtain ⟨B', hB', _, ents, clock, h1, h2, h3, h4, h5⟩ := hc.obj l _ hH
    rw [hB] at hB'; cases hB'
    have hkey : MapKept.IsKey (.int k) (.int k n) := by simp [MapKept.IsKey]
    have hd : P.underlying kt = some (.int k) := by rw [(hT kt hokk).und, huk]
    have hes : ∀ (i : Nat) e en, es[i]? = some e → ents.toList[i]? = some en → en.key = .int k e.1 := fun i e en q1 q2 => (h3 i _ en (imap_get q1) (by simpa using q2)).1
    rcases findNow_int (n := n) es ents.toList 0 (by simpa [imap] using h2) hes with ⟨f1, f2, -, -⟩ | ⟨j, en, b, f1, f2, f3, f4, f5, -, -⟩
    · refine ⟨(TT et).zero, ?_, ?_⟩
      · simp [execOp, ho, he, hyv, Instr.lookup, (hT t hok).run_und w, hu, MapKept.run_getObj_map h1, MapKept.run_checkKey hd hkey, MapKept.run_findKey hd f1, (hT et hoke).run_zero w, Result.andThen]
      · rw [f2]
        exact .v _
    · refine ⟨en.val, ?_, ?_⟩
      · simp [execOp, ho, he, hyv, Instr.lookup, (hT t hok).run_und w, hu, MapKept.run_getObj_map h1, MapKept.run_checkKey hd hkey, MapKept.run_findKey hd f1, Result.andThen]
      · rw [f5]
        exact (h3 j _ en (imap_get f4) (by simpa using f2)).2
theorem AStepD.ptr_same {t yt e : TypeId} {x y : Operand} {l off : Nat} (hx : aev T x = .ptr l off) (hy : aev T y = .ptr l off) (hok : (TT t).ok = true) (hu : (TT t).und = .pointer e) (hoke : (TT e).ok = true) :
    (o.op = .binOp .eql t x y yt → AStepD P o T H (.v (.bool true)) H) ∧ (o.op = .binOp .neq t x y yt → AStepD P o T H (.v (.bool false)) H) := by
  obtain ⟨f, hf, _⟩ := (hT e hoke).info
  refine AStepD.eq_of fun ρ I w a _ ht => ?_
  obtain ⟨p, h1, h2⟩ : ∃ p : Addr, a.eval x = .pointer (some p) ∧ a.eval y = .pointer (some p) := by
    have h1 := aev_eq ht hx
    have h2 := aev_eq ht hy
    generalize a.eval x = u at h1
    generalize a.eval y = v at h2
    cases h1 with
    | @ptr _ _ B hB =>
      cases h2 with
      | @ptr _ _ B' hB' => rw [hB] at hB'; cases hB'; exact ⟨_, rfl, rfl⟩
  rw [h1, h2]
  refine ⟨fun op => by cases op <;> simp [eqGuard], fun d => ?_, rfl, rfl⟩
  simp [Op.equalIn, (hT t hok).run_und w, hu, sizeOf, typeInfo, hf, run_sameAddr_same]
theorem AStepD.to_unsafe {s d t : TypeId} {x : Operand} {l off : Nat} {ty : TypeId} {cs : List AV} (ho : o.op = .convert s d x) (hx : aev T x = .ptr l off) (hok : (TT s).ok = true) (hus : (TT s).und = .pointer t) (hokd : (TT d).ok = true) (hud : (TT d).und = .unsafePointer)
    (hokt : (TT t).ok = true) (h0 : Nat.beq (TT t).size 0 = false) (hH : H.get l = some (.cells ty cs)) (hoff : off < cs.length) : AStepD P o T H (.ptr l off) H := by
  refine .of_pure fun ρ I w a hc ht => ?_
  have h1 := aev_eq ht hx
  obtain ⟨B, hB, _, arr, harr, hsz, hcl, _⟩ := hc.obj l _ hH
  generalize he : a.eval x = u at h1
  cases h1 with
  | @ptr _ _ B' hB' =>
    rw [hB] at hB'; cases hB'
    obtain ⟨f, hf, _, hfs, _⟩ := (hT t hokt).info
    refine ⟨_, ?_, .ptr hB⟩
    simp only [execOp, ho, Sem.run_bind, he]
    rw [Lib.run_to_unsafe w ⟨B.b, off, none⟩ (hus ▸ (hT s hok).und) (hud ▸ (hT d hokd).und) hf (by rw [hfs]; intro e; rw [e] at h0; simp at h0) harr.shape (by show off < arr.size; omega)]
    rfl
theorem AStepD.from_unsafe {s d t : TypeId} {x : Operand} {l : Nat} {cs : List AV} (ho : o.op = .convert s d x) (hx : aev T x = .ptr l 0) (hok : (TT s).ok = true) (hus : (TT s).und = .unsafePointer) (hokd : (TT d).ok = true) (hud : (TT d).und = .pointer t)
    (hokt : (TT t).ok = true) (hH : H.get l = some (.cells t cs)) (h0 : 0 < cs.length) (hs : (TT t).size = cs.length) : AStepD P o T H (.ptr l 0) H := by
  refine .of_pure fun ρ I w a hc ht => ?_
  have h1 := aev_eq ht hx
  obtain ⟨B, hB, _, arr, harr, hsz, hcl, _⟩ := hc.obj l _ hH
  generalize he : a.eval x = u at h1
  cases h1 with
  | @ptr _ _ B' hB' =>
    rw [hB] at hB'; cases hB'
    obtain ⟨f, hf, _, hfs, _⟩ := (hT t hokt).info
    have hce := (hT t hokt).cellsOf
    refine ⟨_, ?_, .ptr hB⟩
    simp only [execOp, ho, Sem.run_bind, he]
    rw [Lib.run_from_unsafe w ⟨B.b, 0, none⟩ (hus ▸ (hT s hok).und) (hud ▸ (hT d hokd).und) hf harr.shape (liesAt_one (by rw [hce]; omega) _ (by rw [hce]; exact (Nat.le_div_iff_mul_le (by omega)).2 (by omega)))]
    rfl
omit hT in
theorem AStepD.noEscape {f : FuncId} {fn : Func} {x : Operand} {ats : Array TypeId} {y : AV} (ho : o.op = .call { callee := .value (.func f), args := #[x], argTypes := ats }) (hx : aev T x = y) (hf : P.funcs[f]? = some fn)
    (hname : (fn.name == "runtime.NumGoroutine") = false) (hb : fn.body.isNone = true) (hn : Extern.findNext fn = none) (he : Extern.find fn = some Extern.AbiNoEscape.same) : AStepD P o T H y H :=
  .extern ho hf hname hb hn he fun ρ I w a hc ht => ⟨_, by rw [show (#[x] : Array Operand).map a.eval = #[a.eval x] from by simp]; exact Lib.run_noEscape w _, aev_eq ht hx⟩
theorem AStepD.append_str {t t2 e : TypeId} {x z : Operand} {b : Nat} {l : List UInt8} {s : List UInt8} {y : AV} (ho : o.op = .call { callee := .builtin .append, args := #[x, z], argTypes := #[t, t2] }) (hx : aev T x = y) (hy : Lst e b H y l) (hz : aev T z = .v (.string ⟨s.toArray⟩))
    (hok : (TT t).ok = true) (hu : (TT t).und = .slice e) (hok2 : (TT t2).ok = true) (hu2 : (TT t2).und = .string) (hoke : (TT e).ok = true) (hk : (TT e).size = 1) (hbk : (TT e).bytes = 1) (hn : s ≠ []) (hm : l.length + s.length ≤ 140737488355328) :
    AStepD P o T H (.sl H.next 0 (l ++ s).length 1) ((H.new (.cells e (flat (l ++ s)))).delv y) := by
  have hread : ∀ ρ I w a, Conc ρ I w H → TV ρ I T a → (∀ w', (Builtin.lenOf (a.eval z)).run P w' = .ok s.length w') ∧ ∃ news : List Value, news.length = (flat s).length ∧ (∀ w', w'.heap = w.heap → (Builtin.firstCells (TT e).size s.length (a.eval z)).run P w' = .ok news.toArray w') ∧ ∀ (i : Nat) b v, (flat s)[i]? = some b → news[i]? = some v → CV ρ I b v := by
    intro ρ I w a hc ht
    have h1 := cv_v (aev_eq ht hz)
    rw [h1]
    refine ⟨fun w' => by simp [Builtin.lenOf, ByteArray.size], s.map fun b => .int .u8 (b.toNat : Nat), by rw [flat_bytes]; simp, fun w' _ => by simp [Builtin.firstCells], fun i b v hb hv => ?_⟩
    rw [flat_bytes, List.getElem?_map] at hb
    rw [List.getElem?_map] at hv
    cases hg : s[i]? with
    | none => rw [hg] at hb; cases hb
    | some c =>
      rw [hg] at hb hv
      cases hb; cases hv
      exact .v _
  have hlen : 0 < s.length := List.length_pos_iff.2 hn
  have hfl : (flat s).length = s.length * 1 := flat_length s
  rw [List.length_append]
  cases hy with
  | nil =>
    rw [List.nil_append, List.length_nil, Nat.zero_add]
    exact .append_nil_gen hT ho hx hread hfl hlen hok hoke hok2 hu ⟨e, .inr hu2⟩ hk (by rw [hbk]; simpa using hm) (by simp at hm; omega)
  | sl hD hN h =>
    rw [flat_append]
    exact .append_gen hT ho hx h (flat_length l) hread hfl (flat_ones s) hok hoke hok2 hu ⟨e, .inr hu2⟩ hk rfl (by rw [hbk]; omega) (by omega)
omit hT in
theorem AStepD.sliceData {t : TypeId} {x : Operand} {l n : Nat} (ho : o.op = .call { callee := .builtin .unsafeSliceData, args := #[x], argTypes := #[t] }) (hx : aev T x = .sl l 0 n 1) (h0 : 0 < n) : AStepD P o T H (.ptr l 0) H := by
  refine .of_pure fun ρ I w a hc ht => ?_
  have h1 := aev_eq ht hx
  generalize he : a.eval x = u at h1
  cases h1 with
  | @sl _ _ _ _ c B hB h2 h3 h4 =>
    refine ⟨_, run_builtin ho a w ?_, .ptr hB⟩
    rw [show (#[x] : Array Operand).map a.eval = #[a.eval x] from by simp, he]
    simp only [builtin, Sem.run_bind]
    rw [Lib.run_unsafeSliceData_row w _ _ _ _ _ (by omega)]
    rfl
theorem AStepD.unsafeString {pt it e : TypeId} {x y : Operand} {L n : Nat} {l : List UInt8} (ho : o.op = .call { callee := .builtin .unsafeString, args := #[x, y], argTypes := #[pt, it] }) (hx : aev T x = .ptr L 0) (hy : aev T y = .v (.int .i64 (n : Nat))) (hn : n = l.length) (h0 : l ≠ []) (hm : l.length ≤ maxLen)
    (hok : (TT pt).ok = true) (hu : (TT pt).und = .pointer e) (hoke : (TT e).ok = true) (hs : (TT e).size = 1) (hH : H.get L = some (.cells e (flat l))) : AStepD P o T H (.v (.string ⟨l.toArray⟩)) (H.del L) := by
  subst hn
  refine AStep.of_run fun ρ I w a hc ht => ?_
  have h1 := aev_eq ht hx
  have h2 := cv_v (aev_eq ht hy)
  obtain ⟨B, hB, _, arr, harr, hsz, hcl, hcv⟩ := hc.obj L _ hH
  have hfl : (flat l).length = l.length := (flat_length l).trans (Nat.mul_one _)
  generalize he : a.eval x = u at h1
  cases h1 with
  | @ptr _ _ B' hB' =>
    rw [hB] at hB'; cases hB'
    have hcell : ∀ j x, l[j]? = some x → w.cell? ((⟨B.b, 0, none⟩ : Addr).add j) = some (.int .u8 x.toNat) := by
      intro j x hj
      have hjl := (List.getElem?_eq_some_iff.1 hj).1
      rw [add_none, Nat.zero_add, harr.cell]
      have hb : (flat l)[j]? = some (.v (.int .u8 (x.toNat : Nat))) := by rw [flat_bytes, List.getElem?_map, hj]; rfl
      have ha : arr[j]? = some arr[j] := Array.getElem?_eq_getElem (by omega)
      rw [ha, cv_v (hcv j _ _ hb ha)]
    have hrun := Lib.run_unsafeString_row (P := P) w pt it o.type e (hu ▸ (hT pt hok).und) (by rw [(hT e hoke).cellsOf, hs]) B.b arr.size harr.shape l h0 (by omega) hm hcell
    obtain ⟨I', arr', hI, hIb, h3, h4, hc', ev⟩ := hc.freeze_mark (k := 0) (m := l.length) hH hB
    refine ⟨_, _, _, ρ, I', _, run_builtin ho a w ?_, ⟨rfl, rfl⟩, .v _, hc', ev⟩
    rw [show (#[x, y] : Array Operand).map a.eval = #[a.eval x, a.eval y] from by simp, he, h2]
    simp only [builtin, Sem.run_bind, hrun, Result.andThen, Sem.run_pure]
end
end Go.Ax

/- The abstract layer, part 40: contracts of the kit's shelf over a row of integers that is written in place. -/

namespace Go.Ax
open Cel (c)
set_option linter.unusedSectionVars false
variable [Tabs]
open Go
theorem AHeap.set_eq {H : AHeap} {l : Nat} {o : AObj} (h : H.get l = some o) : H.set l o = H := by
  refine AHeap.ext (fun k => ?_) rfl
  by_cases e : k = l
  · subst e; rw [h, AHeap.get_set_same]
  · rw [AHeap.get_set_ne _ _ e]
theorem flat_ints (l : List Int) : flat l = (l.map (Value.int .i64)).map .v := by
  rw [List.map_map]
  exact (List.map_eq_flatMap ..).symm
theorem putRow_ints (w : World) (b : Nat) (zs : List Int) : Sort.putRow (Value.int .i64) w b 0 zs.toArray = Sort.putRow id w b 0 (zs.map (Value.int .i64)).toArray := by
  simp only [Sort.putRow]
  congr 1
  funext cells
  simp only [Sort.putCells]
  congr 1
  funext i q
  simp only [List.size_toArray, List.length_map]
  by_cases h : i < zs.length
  · have h1 : i - 0 < zs.length := by omega
    simp [h, h1]
  · simp [h]
theorem ACalls.ints_row {P : Program} {f : FuncId} {H : AHeap} {D : Nat} {t : TypeId} {zs zs' : List Int} {r : AV} {Ret : Value → Nat → Nat → Prop} (hD : H.get D = some (.cells t (flat zs))) (hz : zs'.length = zs.length)
    (h : ∀ (w : World) (b cap : Nat), zs.length ≤ cap → cap ≤ maxLen → Sort.Holds (Value.int .i64) w b 0 zs.toArray → b < w.heap.size →
      Calls P f #[.slice (some ⟨b, 0, none⟩) zs.length cap] w fun e w' => ∃ u n os, e = .returned u ∧ w' = Sort.grow (Sort.putRow (Value.int .i64) (Sort.ahead w n) b 0 zs'.toArray) os ∧ Ret u b cap)
    (hr : ∀ ρ I B cap u, ρ D = some B → zs.length ≤ cap → cap ≤ maxLen → cap ≤ B.sz → Ret u B.b cap → CV ρ I r u) :
    ACalls P f [.sl D 0 zs.length 1] H (fun r' H' => r' = r ∧ H' = H.set D (.cells t (flat zs'))) := by
  intro ρ I w vs hc ha
  obtain ⟨u0, rfl⟩ : ∃ u0, vs = [u0] := by
    have := ha.1
    match vs, this with
    | [a], _ => exact ⟨a, rfl⟩
  have h0 := ha.2 0 _ u0 rfl rfl
  obtain ⟨B, q, hB, rfl, hq1, hq2, hq3⟩ : ∃ B q, ρ D = some B ∧ u0 = .slice (some ⟨B.b, 0, none⟩) zs.length q ∧ zs.length ≤ q ∧ q ≤ maxLen ∧ 0 + q * 1 ≤ B.sz := by
    cases h0 with | sl hB hl hm hs => exact ⟨_, _, hB, rfl, hl, hm, hs⟩
  obtain ⟨B', hB', _, arr, ⟨fz, g1, gz⟩, g2, g3, g4⟩ := hc.obj D _ hD
  rw [hB] at hB'; cases hB'
  have hfl : (flat zs).length = zs.length := (flat_length zs).trans (Nat.mul_one _)
  have hH : Sort.Holds (Value.int .i64) w B.b 0 zs.toArray := by
    intro j hj
    have hjz : j < zs.length := by simpa using hj
    have hja : j < arr.size := by omega
    have hcell : (flat zs)[j]? = some (.v (.int .i64 zs[j])) := by
      rw [flat_ints, List.getElem?_map, List.getElem?_map, List.getElem?_eq_getElem hjz]; rfl
    have hv := cv_v (g4 j _ arr[j] hcell (by simp [hja]))
    rw [Nat.zero_add]
    constructor
    · simp only [World.cell?, g1]
      simp [hja, hv, hjz]
    · simp only [World.frozen?, g1]
      rcases gz with rfl | ⟨gz, _⟩
      · simp
      · simp; omega
  refine Calls.mono (h w B.b q hq1 hq2 hH (Array.getElem?_eq_some_iff.1 g1).1) ?_
  rintro e w' ⟨u, n, os, rfl, rfl, hret⟩
  obtain ⟨c1, c2⟩ := hc.putRow (F := zs.map (Value.int .i64)) (G := zs'.map (Value.int .i64)) (by rw [hD, flat_ints]) hB (by simp [hz]) n os
  rw [putRow_ints]
  refine ⟨_, r, ρ, I, _, rfl, ⟨rfl, rfl⟩, hr ρ I B q u hB hq1 hq2 (by omega) hret, ?_, ?_⟩
  · rw [flat_ints zs']; exact c1
  · rw [flat_ints zs']; exact c2
theorem AW.vec_cell {md : Md} {P : Program} {cd : Code} {Q : APost} {T : Fr} {H : AHeap} {n X b : Nat} {α : Type} [Cel α] {t tX : TypeId} {y : AV} {l : List α} {pre post : List AV} (hX : H.get X = some (.cells tX (pre ++ y :: post))) (hy : Lst t b H y l) (hXb : X < b)
    (h : AW md P cd Q T ((H.delv y).set X (.cells tX (pre ++ vecA l :: post))) n) : AW md P cd Q T H n := by
  have hF : ∀ (i : Nat) a c, (pre ++ y :: post)[i]? = some a → (pre ++ vecA l :: post)[i]? = some c → a = c ∨ (a = y ∧ c = vecA l) := by
    intro i a c ha hc
    rcases Nat.lt_trichotomy i pre.length with hi | hi | hi
    · rw [List.getElem?_append_left hi] at ha hc
      rw [ha] at hc; cases hc; exact .inl rfl
    · subst hi
      rw [List.getElem?_append_right (Nat.le_refl _), Nat.sub_self] at ha hc
      cases ha; cases hc; exact .inr ⟨rfl, rfl⟩
    · rw [List.getElem?_append_right (by omega)] at ha hc
      obtain ⟨j, hj⟩ : ∃ j, i - pre.length = j + 1 := ⟨i - pre.length - 1, by omega⟩
      rw [hj, List.getElem?_cons_succ] at ha hc
      rw [ha] at hc; cases hc; exact .inl rfl
  cases hy with
  | nil =>
    intro ρ I w a hc ht hn hd
    have hc2 := hc.retell hX (bs := pre ++ vecA ([] : List α) :: post) (by simp) fun i a b u ha hb hu => by
      rcases hF i a b ha hb with rfl | ⟨rfl, rfl⟩
      · exact hu
      · exact SubV.nil_vecA ρ I u hu
    have ev := Ev.shrink (ρ := ρ) (I := I) (w := w) (o' := .cells tX (pre ++ vecA ([] : List α) :: post)) hX
    exact wpIn_mono (h ρ I w a hc2 ht hn (hd.ev ev)) fun _ _ _ f => f.of_ev ev
  | @sl D _ hD hN hg =>
    refine AW.freeze_cell (bs := pre ++ vecA l :: post) hg hX (by omega) (by simp) (fun i a c ha hc => ?_) h
    rcases hF i a c ha hc with rfl | ⟨rfl, rfl⟩
    · exact .same _
    · have h1 : Frz D (flat l) (.sl D 0 l.length (Cel.n α)) (.vec l.length (((flat l).drop 0).take (l.length * Cel.n α))) := .sl (by rw [flat_length]; omega)
      rwa [List.drop_zero, List.take_of_length_le (by rw [flat_length]; exact Nat.le_refl _)] at h1
theorem AStepD.index_ints {P : Program} {o : Oper} {T : Fr} {H : AHeap} {TT : Nat → TI} (hT : TOk P TT) {t e : TypeId} {x y : Operand} {l : List Int} {n i : Nat} {k : IntKind} {j : Int} (ho : o.op = .index t x y) (hx : aev T x = .agg (flat l)) (hy : aev T y = .v (.int k j)) (hok : (TT t).ok = true) (hu : (TT t).und = .array n e) (hoke : (TT e).ok = true)
    (hag : (TT e).agg = false) (hs : (TT e).size = 1) (hn : n = l.length) (hj : j = (i : Int)) (hi : i < l.length) : AStepD P o T H (.v (.int .i64 (l.getD i 0))) H := by
  have hfl : (flat l).length = l.length := (flat_length l).trans (Nat.mul_one _)
  have h := AStepD.index_arr (H := H) hT ho hx hy hok hoke hu hj (by omega) (by rw [hs]; omega) (fun _ => hs)
  rw [hag, hs] at h
  have hd : ((flat l).drop (i * 1)).take 1 = [.v (.int .i64 l[i])] := flat_at l i hi
  rw [hd] at h
  rw [List.getD_eq_getElem?_getD, List.getElem?_eq_getElem hi, Option.getD_some]
  exact h
end Go.Ax

/- The abstract layer, part 41: values made of integers alone (arrays, structs of them) compared. -/

namespace Go.Ax
open Cel (c)
set_option linter.unusedSectionVars false
variable [Tabs]
open Go
def intsT (P : Program) (TT : Nat → TI) : Nat → TypeId → Bool
  | 0, _ => false
  | d + 1, t => (TT t).ok && match (TT t).und with
    | .int .i64 => !(TT t).agg && Nat.beq (TT t).size 1
    | .array n e => (TT t).agg && intsT P TT d e && Nat.beq (TT t).size (n * (TT e).size)
    | .struct fs => (TT t).agg && !P.stoodInHeld t && (fs.toList.all fun f => f.name != "_" && intsT P TT d f.type) && (match fieldsSeq TT 0 fs.toList with | some e => Nat.beq e (TT t).size | none => false)
    | _ => false
def valI (agg : Bool) (xs : List Int) : Value := if agg then .agg (xs.map fun a => Value.int .i64 a).toArray else .int .i64 (xs.headD 0)
section
variable {P : Program} {TT : Nat → TI} (hT : TOk P TT)
include hT
theorem intsT_ok {d t : Nat} (h : intsT P TT d t = true) : (TT t).ok = true := by
  cases d with
  | zero => cases h
  | succ d => simp only [intsT, Bool.and_eq_true] at h; exact h.1
theorem intsT_one {d t : Nat} (h : intsT P TT d t = true) : (TT t).agg = false → (TT t).size = 1 := by
  cases d with
  | zero => cases h
  | succ d =>
    simp only [intsT, Bool.and_eq_true] at h
    intro ha
    obtain ⟨_, h⟩ := h
    split at h
    · simp only [Bool.and_eq_true] at h; exact Nat.eq_of_beq_eq_true h.2
    · rw [ha] at h; simp at h
    · rw [ha] at h; simp at h
    · cases h
theorem part_ints {d t : Nat} (h : intsT P TT d t = true) (xs : List Int) (off : Nat) (hk : off + (TT t).size ≤ xs.length) (w : World) :
    (part t (xs.map fun a => Value.int .i64 a).toArray off).run P w = .ok (valI (TT t).agg ((xs.drop off).take (TT t).size)) w := by
  have h1 := run_part (w := w) (hT t (intsT_ok hT h)) (vs := xs.map fun a => Value.int .i64 a) (off := off) (by rw [List.length_map]; exact hk) (intsT_one hT h)
  rw [h1, valI]
  split
  · rw [← List.map_drop, ← List.map_take]
  · rename_i ha
    have hs := intsT_one hT h (by simpa using ha)
    rw [hs] at hk ⊢
    rw [← List.map_drop, ← List.map_take, List.drop_eq_getElem_cons (by omega)]
    rfl
theorem run_equal_ints : ∀ (d : Nat) (t : TypeId) (xs ys : List Int) (D : Nat) (w : World), intsT P TT d t = true → xs.length = (TT t).size → ys.length = (TT t).size →
    (Op.equalIn (D + d) t (valI (TT t).agg xs) (valI (TT t).agg ys)).run P w = .ok (decide (xs = ys)) w
  | 0, _, _, _, _, _, h, _, _ => by cases h
  | d + 1, t, xs, ys, D, w, h, hx, hy => by
    have hok := intsT_ok hT h
    have hund := (hT t hok).und
    simp only [intsT, Bool.and_eq_true] at h
    obtain ⟨_, h⟩ := h
    split at h
    · rename_i hu
      rw [hu] at hund
      simp only [Bool.and_eq_true, Bool.not_eq_true'] at h
      have hs := Nat.eq_of_beq_eq_true h.2
      rw [hs] at hx hy
      match xs, ys, hx, hy with
      | [a], [b], _, _ =>
        simp only [valI, h.1, Bool.false_eq_true, if_false, List.headD_cons]
        rw [show D + (d + 1) = (D + d) + 1 from rfl, run_equalIn_int w (D + d) t .i64 .i64 a b hund]
        congr 1
        rw [Bool.eq_iff_iff]; simp
    · rename_i n e hu
      rw [hu] at hund
      simp only [Bool.and_eq_true] at h
      obtain ⟨⟨ha, he⟩, hsz⟩ := h
      have hsz := Nat.eq_of_beq_eq_true hsz
      obtain ⟨f, hf, _, hfs, _⟩ := (hT e (intsT_ok hT he)).info
      simp only [valI, ha, if_true]
      rw [show D + (d + 1) = (D + d) + 1 from rfl, run_equalIn_array w (D + d) _ _ hund hf, (hT e (intsT_ok hT he)).cellsOf]
      have key : ∀ (k j : Nat), j + k = n → (Op.eqItems (D + d) e (TT e).size (xs.map fun a => Value.int .i64 a).toArray (ys.map fun a => Value.int .i64 a).toArray ((List.range' j k))).run P w = .ok (decide (xs.drop (j * (TT e).size) = ys.drop (j * (TT e).size))) w := by
        intro k
        induction k with
        | zero =>
          intro j hj
          have h1 : xs.drop (j * (TT e).size) = [] := List.drop_of_length_le (by rw [hx, hsz, ← hj]; simp)
          have h2 : ys.drop (j * (TT e).size) = [] := List.drop_of_length_le (by rw [hy, hsz, ← hj]; simp)
          rw [h1, h2]; rfl
        | succ k ih =>
          intro j hj
          have hle : j * (TT e).size + (TT e).size ≤ n * (TT e).size := by rw [← Nat.succ_mul]; exact Nat.mul_le_mul_right _ (by omega)
          have e1 : xs.drop (j * (TT e).size) = (xs.drop (j * (TT e).size)).take (TT e).size ++ xs.drop ((j + 1) * (TT e).size) := by rw [Nat.succ_mul, ← List.drop_drop, List.take_append_drop]
          have e2 : ys.drop (j * (TT e).size) = (ys.drop (j * (TT e).size)).take (TT e).size ++ ys.drop ((j + 1) * (TT e).size) := by rw [Nat.succ_mul, ← List.drop_drop, List.take_append_drop]
          have hr := run_equal_ints d e ((xs.drop (j * (TT e).size)).take (TT e).size) ((ys.drop (j * (TT e).size)).take (TT e).size) D w he (by rw [List.length_take, List.length_drop]; omega) (by rw [List.length_take, List.length_drop]; omega)
          rw [List.range'_succ]
          simp only [Op.eqItems, Sem.run_bind, part_ints hT he xs (j * (TT e).size) (by omega), part_ints hT he ys (j * (TT e).size) (by omega), Result.andThen, hr]
          by_cases hq : (xs.drop (j * (TT e).size)).take (TT e).size = (ys.drop (j * (TT e).size)).take (TT e).size
          · rw [decide_eq_true hq]
            simp only [Bool.not_true, Bool.false_eq_true, if_false]
            rw [ih (j + 1) (by omega)]
            congr 1
            refine decide_eq_decide.2 ?_
            conv => rhs; rw [e1, e2, hq]
            exact List.append_cancel_left_eq .. ▸ Iff.rfl
          · rw [decide_eq_false hq]
            simp only [Bool.not_false, if_true, Sem.run_pure]
            congr 1
            refine (decide_eq_false fun hh => hq ?_).symm
            exact congrArg (fun l => l.take (TT e).size) hh
      have := key n 0 (by omega)
      rw [Nat.zero_mul, List.drop_zero, List.drop_zero] at this
      rw [List.range_eq_range']
      exact this
    · rename_i fs hu
      rw [hu] at hund
      simp only [Bool.and_eq_true, Bool.not_eq_true'] at h
      obtain ⟨⟨⟨ha, hst⟩, hall⟩, hseq⟩ := h
      have hfo : P.fieldsOf t = fs := by simp [Program.fieldsOf, hund]
      simp only [valI, ha, if_true]
      rw [show D + (d + 1) = (D + d) + 1 from rfl, run_equalIn_struct (P := P) w (D + d) t _ _ (by rw [hfo]; exact hund) hst, hfo]
      have key : ∀ (l : List Field) (o : Nat), (∀ f ∈ l, f ∈ fs.toList) → fieldsSeq TT o l = some (TT t).size → o ≤ (TT t).size → (Op.eqFields (D + d) (xs.map fun a => Value.int .i64 a).toArray (ys.map fun a => Value.int .i64 a).toArray l).run P w = .ok (decide (xs.drop o = ys.drop o)) w := by
        intro l
        induction l with
        | nil =>
          intro o _ hs _
          simp only [fieldsSeq, Option.some.injEq] at hs
          rw [List.drop_of_length_le (by omega : xs.length ≤ o), List.drop_of_length_le (by omega : ys.length ≤ o)]; rfl
        | cons f l ih =>
          intro o hm hs ho
          have hf := List.all_eq_true.1 hall f (hm f (List.mem_cons_self ..))
          simp only [Bool.and_eq_true, bne_iff_ne, ne_eq] at hf
          simp only [fieldsSeq] at hs
          have mono : ∀ (l : List Field) (o e : Nat), fieldsSeq TT o l = some e → o ≤ e := by
            intro l
            induction l with
            | nil => intro o e h; simp only [fieldsSeq, Option.some.injEq] at h; omega
            | cons g l ih =>
              intro o e h
              simp only [fieldsSeq] at h
              cases hb : Nat.beq g.offset o with
              | true => rw [hb] at h; have := ih _ _ h; omega
              | false => rw [hb] at h; cases h
          cases hb : Nat.beq f.offset o with
          | false => rw [hb] at hs; cases hs
          | true =>
            rw [hb] at hs
            have hs : fieldsSeq TT (o + (TT f.type).size) l = some (TT t).size := hs
            have hob := Nat.eq_of_beq_eq_true hb
            have hle := mono _ _ _ hs
            have hr := run_equal_ints d f.type ((xs.drop o).take (TT f.type).size) ((ys.drop o).take (TT f.type).size) D w hf.2 (by rw [List.length_take, List.length_drop]; omega) (by rw [List.length_take, List.length_drop]; omega)
            have e1 : xs.drop o = (xs.drop o).take (TT f.type).size ++ xs.drop (o + (TT f.type).size) := by rw [← List.drop_drop, List.take_append_drop]
            have e2 : ys.drop o = (ys.drop o).take (TT f.type).size ++ ys.drop (o + (TT f.type).size) := by rw [← List.drop_drop, List.take_append_drop]
            simp only [Op.eqFields, hf.1, ne_eq, not_false_eq_true, if_true, Sem.run_bind, hob, part_ints hT hf.2 xs o (by omega), part_ints hT hf.2 ys o (by omega), Result.andThen, hr]
            by_cases hq : (xs.drop o).take (TT f.type).size = (ys.drop o).take (TT f.type).size
            · rw [decide_eq_true hq]
              simp only [Bool.not_true, Bool.false_eq_true, if_false]
              rw [ih _ (fun g hg => hm g (List.mem_cons_of_mem _ hg)) hs hle]
              congr 1
              refine decide_eq_decide.2 ?_
              conv => rhs; rw [e1, e2, hq]
              exact List.append_cancel_left_eq .. ▸ Iff.rfl
            · rw [decide_eq_false hq]
              simp only [Bool.not_false, if_true, Sem.run_pure]
              congr 1
              refine (decide_eq_false fun hh => hq ?_).symm
              exact congrArg (fun l => l.take (TT f.type).size) hh
      split at hseq
      · rename_i e he
        rw [Nat.eq_of_beq_eq_true hseq] at he
        have := key fs.toList 0 (fun _ h => h) he (Nat.zero_le _)
        rwa [List.drop_zero, List.drop_zero] at this
      · cases hseq
    · cases h
theorem AStepD.ints_eq {o : Oper} {T : Fr} {H : AHeap} {t yt : TypeId} {x y : Operand} {xs ys : List Int} {b : Bool} (d : Nat) (op : BinOp) (hop : op = .eql ∨ op = .neq) (ho : o.op = .binOp op t x y yt) (hx : aev T x = .agg (flat xs)) (hy : aev T y = .agg (flat ys)) (hag : (TT t).agg = true) (hd : Nat.ble d 10000 = true)
    (hi : intsT P TT d t = true) (hg : P.eqGuardType P.depth t = false) (hl : xs.length = (TT t).size) (hl' : ys.length = (TT t).size) (hb : (if op = .eql then decide (xs = ys) else !decide (xs = ys)) = b) : AStepD P o T H (.v (.bool b)) H := by
  subst hb
  refine .of_pure fun ρ I w a hc ht => ⟨_, ?_, .v _⟩
  have h1 := aev_eq ht hx
  have h2 := aev_eq ht hy
  obtain ⟨e1, e2⟩ : a.eval x = .agg (xs.map fun a => Value.int .i64 a).toArray ∧ a.eval y = .agg (ys.map fun a => Value.int .i64 a).toArray := by
    have hz : ∀ l : List Int, flat l = zA l := fun l => (List.map_eq_flatMap ..).symm
    rw [hz] at h1 h2
    generalize a.eval x = u at h1
    generalize a.eval y = v at h2
    cases h1 with | agg g1 g2 =>
    cases h2 with | agg k1 k2 =>
    rw [zA_vals g1 g2, zA_vals k1 k2]
    exact ⟨rfl, rfl⟩
  have hr := run_equal_ints hT d t xs ys (10000 - d) w hi hl hl'
  rw [Nat.sub_add_cancel (Nat.le_of_ble_eq_true hd)] at hr
  simp only [valI, hag, if_true] at hr
  rcases hop with rfl | rfl
  · simp only [execOp, ho, Sem.run_bind, e1, e2, run_eqGuard_agg w _ t x y _ _ hg, run_eql_struct, hr, Result.andThen, Sem.run_pure, if_true]
  · simp only [execOp, ho, Sem.run_bind, e1, e2, run_eqGuard_agg w _ t x y _ _ hg, run_neq_struct, hr, Result.andThen, Sem.run_pure]
    rfl
end
end Go.Ax

/- The abstract layer, part 42: steps in short, for regions printed as one chain. -/

namespace Go.Ax
open Cel (c)
set_option linter.unusedSectionVars false
variable [Tabs]
variable {md : Md} {P : Program} {ops : Array Oper} {Q : APost} {os : List Oper} {T : Fr} {H H1 : AHeap} {n : Nat} {o : Oper} {x : AV}

structure SD (P : Program) (ops : Array Oper) (n d : Nat) (o : Oper) (T : Fr) (H : AHeap) (x : AV) (H1 : AHeap) : Prop where
  hd : o.dst = some d
  hn : Nat.blt d n = true
  h : GStep P ops n o T H x H1
theorem SD.s {d : Nat} (hd : o.dst = some d) (hn : Nat.blt d n = true) (hg : o.guard = none) (h : AStepD P o T H x H1) : SD P ops n d o T H x H1 := ⟨hd, hn, GStep.plain hg h⟩
theorem AL.gs (hd : dstB o n = true) (h : GStep P ops n o T H x H1) (k : AL md P ops Q os (putA T o.dst x) H1 n) : AL md P ops Q (o :: os) T H n := by
  intro ρ0 I0 w0 H0 ρ I w a ev hc ht hn hde
  have g := h ρ I w a hc ht hn
  unfold wpListIn
  by_cases hw : Region.wanted o (yielded ops a.tmps)
  · rw [if_pos hw] at g ⊢
    refine Oper.wpIn_mono ?_ (AStep.at g _)
    intro a' w' ⟨u, x, ρ', I', H', ha, hk, hx, hc', ev'⟩
    obtain ⟨rfl, rfl⟩ := hk
    subst ha
    exact k ρ0 I0 w0 H0 ρ' I' w' _ (ev.trans ev') hc' ((ht.mono ev'.rho ev'.imm).put (by rw [hn]; exact dstB_spec hd) hx) (by rw [put_size, hn]) (by rw [put_defers]; exact hde.ev ev')
  · rw [if_neg hw] at g ⊢
    obtain ⟨rfl, hx⟩ := g
    exact ⟨fun _ _ => trivial, k ρ0 I0 w0 H0 ρ I w _ ev hc (ht.put (by rw [hn]; exact dstB_spec hd) hx) (by rw [put_size, hn]) (by rw [put_defers]; exact hde)⟩
theorem st {d : Nat} (h : SD P ops n d o T H x H1) (k : AL md P ops Q os ((d, x) :: T) H1 n) : AL md P ops Q (o :: os) T H n := by
  refine AL.gs (by simp only [dstB, h.hd]; exact decide_eq_true (Eq.mp Nat.blt_eq h.hn)) h.h ?_
  rw [h.hd]; exact k
theorem st0 (h : o.dst = none ∧ o.guard = none ∧ AStepD P o T H x H1) (k : AL md P ops Q os T H1 n) : AL md P ops Q (o :: os) T H n := AL.step0 h.2.1 h.1 h.2.2 k

theorem rg {id : Nat} {y : Code} (h : ∀ K : Fr → AHeap → Prop, (∀ T H, AW md P y Q T H n → K T H) → AL md P ops (AThen K Q) ops.toList T H n) : AW md P (.seq (.region id ops false) y) Q T H n := AW.seq_region h
theorem nt {next : Fr → AHeap → Prop} (h : next T H) : AL md P ops (AThen next Q) [] T H n := AL.nil_then h

structure UW (l : List Nat) (p : Prop) : Prop where
  h : p
theorem UW.yes {s : Nat} {l : List Nat} {g : Bool} {a : AV} (hx : look T s = .cond g a) (hg : g = true) (h : UW l (AStepD P o ((s, a) :: T) H x H1)) : UW (s :: l) (AStepD P o T H x H1) := ⟨AStepD.uncond s hx hg h.h⟩
theorem UW.no {s : Nat} {l : List Nat} {p : Prop} (h : UW l p) : UW (s :: l) p := ⟨h.h⟩
theorem UW.nil {p : Prop} (h : p) : UW [] p := ⟨h⟩
structure GW (l : List Nat) (p : Prop) : Prop where
  p : p
theorem GW.may {l : List Nat} {j e d : Nat} {want b : Bool} (hd : o.dst = some d) (hn : Nat.blt d n = true) (hg : o.guard = some (j, want)) (hj : (ops[j]?).bind (·.dst) = some e) (he : Nat.blt e n = true) (hb : look T e = .v (.bool b)) (h : b = want → UW l (AStepD P o T H x H)) : GW l (SD P ops n d o T H (.cond (b == want) x) H) :=
  ⟨⟨hd, hn, .may hg hj he hb fun k => (h k).h⟩⟩
theorem GW.may2 {l : List Nat} {j e d : Nat} {want b c : Bool} (hd : o.dst = some d) (hn : Nat.blt d n = true) (hg : o.guard = some (j, want)) (hj : (ops[j]?).bind (·.dst) = some e) (he : Nat.blt e n = true) (hb : look T e = .cond c (.v (.bool b))) (h : c = true → b = want → UW l (AStepD P o T H x H)) : GW l (SD P ops n d o T H (.cond (c && (b == want)) x) H) :=
  ⟨⟨hd, hn, .may2 hg hj he hb fun c k => (h c k).h⟩⟩
theorem GW.yes {l : List Nat} {d : Nat} {j e : Nat} {want b : Bool} (hd : o.dst = some d) (hn : Nat.blt d n = true) (hg : o.guard = some (j, want)) (hj : (ops[j]?).bind (·.dst) = some e) (he : Nat.blt e n = true) (hb : look T e = .v (.bool b)) (hbw : b = want) (h : AStepD P o T H x H1) : GW l (SD P ops n d o T H x H1) := ⟨⟨hd, hn, .yes hg hj he hb hbw h⟩⟩
theorem GW.no {l : List Nat} {d : Nat} {j e : Nat} {want b : Bool} (hd : o.dst = some d) (hn : Nat.blt d n = true) (hg : o.guard = some (j, want)) (hj : (ops[j]?).bind (·.dst) = some e) (he : Nat.blt e n = true) (hb : look T e = .v (.bool b)) (hbw : b = !want) : GW l (SD P ops n d o T H (.v undef) H) := ⟨⟨hd, hn, .no hg hj he hb hbw⟩⟩
theorem GW.none {l : List Nat} {d : Nat} {j e : Nat} {want : Bool} (hd : o.dst = some d) (hn : Nat.blt d n = true) (hg : o.guard = some (j, want)) (hj : (ops[j]?).bind (·.dst) = some e) (hb : look T e = .v undef) : GW l (SD P ops n d o T H (.v undef) H) := ⟨⟨hd, hn, .none hg hj hb⟩⟩
end Go.Ax
