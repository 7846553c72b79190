/- The abstract layer, part 34: lists of rows of plain values, flat. -/
import Derived.Test.YtcomjodfkcnjhaaGreatDoorCE3
import Derived.Shelf.GgSortFunc.RowK
import Derived.Lib.Builder
import Derived.Lib.UnsafeStr
import Derived.Shelf.Slices.Cells
import Derived.Lib.RowBridge
import Derived.ChangeKeysEq
import Derived.MapKept
import Derived.Maps.RangeRun
import Derived.Laws.RangeString
set_option linter.unusedSimpArgs false
set_option linter.unusedVariables false
namespace Go.Ax
open Cel (c)
set_option linter.unusedSectionVars false
variable [Tabs]
open Go

theorem amap_nil {T : Fr} : ([] : List Operand).map (aev T) = [] := rfl
theorem amap_cons {T : Fr} {x : Operand} {xs : List Operand} {y : AV} {ys : List AV} (h : aev T x = y) (ht : xs.map (aev T) = ys) : (x :: xs).map (aev T) = y :: ys := by subst h; subst ht; rfl
theorem AStepD.box1 {P : Program} {o : Oper} {T : Fr} {H : AHeap} {t : TypeId} {x : Operand} {y : AV} (ho : o.op = .box t x) (hx : aev T x = y) (h1 : y.one = true) : AStepD P o T H (.ptr H.next 0) (H.new (.cells t [y])) :=
  .box ho (by rw [hx]; exact one_cells h1) (by simpa using h1)
theorem AStepD.load_cel_ip {P : Program} {o : Oper} {T : Fr} {H : AHeap} {TT : Nat → TI} (hT : TOk P TT) {α : Type} [Cel α] {t : TypeId} {x : Operand} {a : α} {r : List AV} {k : Nat} (ho : o.op = .load t x) (hx : aev T x = .ip (c a ++ r)) (hag : (TT t).agg = true) (hok : (TT t).ok = true)
    (hs : (TT t).size = k) (hk : k = Cel.n α) : AStepD P o T H (.agg (c a)) H := by
  subst hk
  have h := Cel.len a
  exact .load_agg_ip hT ho hx hag hok hs (by rw [List.length_append]; omega) (by rw [List.take_append_of_le_length (by omega), List.take_of_length_le (by omega)])
section
variable {P : Program} {o : Oper} {T : Fr} {H : AHeap} {TT : Nat → TI} (hT : TOk P TT) {α : Type} [Cel α] {t e : TypeId} {x h : Operand} {n b k : Nat} {l : List α} {kh : IntKind} {eh : Int}
include hT
end
theorem SubV.tup2 {a b a' b' : AV} (h1 : SubV a a') (h2 : SubV b b') : SubV (.tup [a, b]) (.tup [a', b']) := fun ρ I u h => by
  cases h with
  | @tup _ vs hl hv =>
    refine .tup (by simpa using hl) fun i x y hx hy => ?_
    match i with
    | 0 => simp only [List.getElem?_cons_zero, Option.some.injEq] at hx; subst hx; exact h1 ρ I y (hv 0 a y rfl hy)
    | 1 => simp only [List.getElem?_cons_succ, List.getElem?_cons_zero, Option.some.injEq] at hx; subst hx; exact h2 ρ I y (hv 1 b y rfl hy)
    | i + 2 => simp at hx
theorem SubV.nil_vecA {α : Type} [Cel α] : SubV (.v (.slice none 0 0)) (vecA ([] : List α)) := SubV.nil_vec
theorem AStepD.vec_flat {P : Program} {o : Oper} {T : Fr} {H : AHeap} {α : Type} [Cel α] {l : List α} {e : TypeId} {n k : Nat} {cs : List AV} (h : AStepD P o T H (.sl H.next 0 n k) (H.new (.cells e cs))) (hc : cs = flat l) (hn : n = l.length) (hk : k = Cel.n α) : AStepD P o T H (vecA l) H := by
  subst hc; subst hn; subst hk
  refine AStepD.frz_quiet h (AHeap.get_new_same _ _) ?_ (vecA_plain l) (Keep.del (Keep.new (Keep.refl _)) (Nat.le_refl _))
  have := Frz.sl (l := H.next) (cs := flat l) (off := 0) (len := l.length) (k := Cel.n α) (by rw [flat_length]; omega)
  rwa [List.drop_zero, ← flat_length, List.take_of_length_le (Nat.le_refl _)] at this
section
variable {P : Program} {o : Oper} {T : Fr} {H : AHeap} {TT : Nat → TI} (hT : TOk P TT) {α : Type} [Cel α]
include hT
end
end Go.Ax

/- The abstract layer, part 35: unsigned numbers of 64 bits as bit vectors. -/

namespace Go.Ax
open Cel (c)
set_option linter.unusedSectionVars false
variable [Tabs]
variable {md : Md}

abbrev u64A (a : BitVec 64) : AV := .v (.int .u64 (a.toNat : Nat))

theorem wrap_u64 (a : BitVec 64) : IntKind.u64.wrap (a.toNat : Nat) = (a.toNat : Nat) := by
  have := a.isLt
  simp [IntKind.wrap, IntKind.signed, IntKind.bits]
  omega
theorem ofInt_toNat (a : BitVec 64) : BitVec.ofInt 64 (a.toNat : Nat) = a := by
  apply BitVec.eq_of_toNat_eq
  simp

section
variable {P : Program} {o : Oper} {T : Fr} {H : AHeap} {t yt : TypeId} {x y : Operand} {a b : BitVec 64}
theorem AStepD.bv_or (ho : o.op = .binOp .or t x y yt) (hx : aev T x = u64A a) (hy : aev T y = u64A b) : AStepD P o T H (u64A (a ||| b)) H :=
  .bits ho (by simp) hx hy (by
    show IntKind.u64.wrap ((BitVec.ofInt 64 _ ||| BitVec.ofInt 64 _).toNat : Nat) = _
    rw [ofInt_toNat, ofInt_toNat, wrap_u64])
theorem AStepD.bv_and (ho : o.op = .binOp .and t x y yt) (hx : aev T x = u64A a) (hy : aev T y = u64A b) : AStepD P o T H (u64A (a &&& b)) H :=
  .bits ho (by simp) hx hy (by
    show IntKind.u64.wrap ((BitVec.ofInt 64 _ &&& BitVec.ofInt 64 _).toNat : Nat) = _
    rw [ofInt_toNat, ofInt_toNat, wrap_u64])
theorem AStepD.bv_shl {k : IntKind} {i : Nat} (ho : o.op = .binOp .shl t x y yt) (hx : aev T x = u64A a) (hy : aev T y = .v (.int k (i : Nat))) : AStepD P o T H (u64A (a <<< i)) H :=
  .shl ho hx hy (by omega) (by
    show IntKind.u64.wrap ((a.toNat : Nat) * 2 ^ min ((i : Nat) : Int).toNat 64) = _
    have e : ((a.toNat : Nat) * 2 ^ min ((i : Nat) : Int).toNat 64 : Int) = ((a.toNat * 2 ^ min i 64 : Nat) : Int) := by simp
    rw [e]
    simp only [IntKind.wrap, IntKind.signed, IntKind.bits, BitVec.toNat_shiftLeft, Nat.shiftLeft_eq]
    simp only [Bool.false_and, Bool.false_eq_true, if_false]
    rcases Nat.le_total i 64 with h | h
    · rw [Nat.min_eq_left h]; omega
    · rw [Nat.min_eq_right h]
      have h2 : 2 ^ i = 2 ^ 64 * 2 ^ (i - 64) := by rw [← Nat.pow_add]; congr 1; omega
      rw [h2, ← Nat.mul_assoc, Nat.mul_comm a.toNat, Nat.mul_assoc, Nat.mul_mod_right]
      omega)
theorem AStepD.bv_shr {k : IntKind} {i : Nat} (ho : o.op = .binOp .shr t x y yt) (hx : aev T x = u64A a) (hy : aev T y = .v (.int k (i : Nat))) : AStepD P o T H (u64A (a >>> i)) H :=
  .shr ho hx hy (by omega) (by
    show ((a.toNat : Nat) : Int).fdiv (2 ^ min ((i : Nat) : Int).toNat 64) = _
    have e : ((2 : Int) ^ min ((i : Nat) : Int).toNat 64) = ((2 ^ min i 64 : Nat) : Int) := by simp
    rw [e, ← Int.ofNat_fdiv, BitVec.toNat_ushiftRight, Nat.shiftRight_eq_div_pow]
    congr 1
    rcases Nat.le_total i 64 with h | h
    · rw [Nat.min_eq_left h]
    · rw [Nat.min_eq_right h, Nat.div_eq_of_lt a.isLt, Nat.div_eq_of_lt]
      exact Nat.lt_of_lt_of_le a.isLt (Nat.pow_le_pow_right (by decide) h))
theorem AStepD.bv_pred (ho : o.op = .binOp .sub t x y yt) (hx : aev T x = u64A a) (hy : aev T y = .v (.int .u64 1)) (h0 : a ≠ 0#64) : AStepD P o T H (u64A (a - 1#64)) H := by
  have hn : 1 ≤ a.toNat := by
    rcases Nat.eq_zero_or_pos a.toNat with h | h
    · exact absurd (BitVec.eq_of_toNat_eq (by simpa using h)) h0
    · exact h
  have := a.isLt
  refine .sub ho hx hy ?_
  simp only [IntKind.wrap, IntKind.signed, IntKind.bits, BitVec.toNat_sub]
  simp
  omega
end

theorem bv_eq (a b : BitVec 64) : decide ((a.toNat : Int) = (b.toNat : Int)) = decide (a = b) := by
  rw [decide_eq_decide]
  constructor
  · intro h; exact BitVec.eq_of_toNat_eq (by exact_mod_cast h)
  · rintro rfl; rfl
theorem bv_bit (a : BitVec 64) (i : Nat) : decide ((((a >>> i) &&& 1#64).toNat : Int) = 1) = a.getLsbD i := by
  have h : ((a >>> i) &&& 1#64).toNat = (a.getLsbD i).toNat := by
    rw [BitVec.toNat_and, BitVec.toNat_ushiftRight, BitVec.toNat_ofNat, BitVec.getLsbD]
    rw [show 1 % 2 ^ 64 = 1 from rfl, Nat.and_one_is_mod, Nat.testBit_eq_decide_div_mod_eq, Nat.shiftRight_eq_div_pow]
    rcases Nat.mod_two_eq_zero_or_one (a.toNat / 2 ^ i) with h | h <;> simp [h]
  rw [h]
  cases a.getLsbD i <;> simp
end Go.Ax

/- The abstract layer, part 36: rows stored and loaded whole. -/

namespace Go.Ax
open Cel (c)
set_option linter.unusedSectionVars false
variable [Tabs]
open Go
section
variable {P : Program} {o : Oper} {T : Fr} {H : AHeap} {TT : Nat → TI} (hT : TOk P TT) {α : Type} [Cel α] {l : List α}
include hT
end
end Go.Ax

/- The abstract layer, part 37: structs of integers, bools and texts compared. -/

namespace Go.Ax
open Cel (c)
set_option linter.unusedSectionVars false
variable [Tabs]
open Go

section
variable {P : Program} {o : Oper} {T : Fr} {H : AHeap} {TT : Nat → TI} (hT : TOk P TT)
include hT

end
end Go.Ax

/- The abstract layer, part 38: from a law's abstract call to what its row asks, where the law's sizes lean on what came in. -/

namespace Go.Ax
open Cel (c)
set_option linter.unusedSectionVars false
variable [Tabs]
open Go
open Go.RowKit Go.ChangeShapes Go.WideShapes

section
variable {H : Type} {enc : TypeId × Value → H} {P : Program} {TT : Nat → TI} (hT : TOk P TT)
include hT

end
end Go.Ax

/- The abstract layer, part 39: a builder of texts: pointers of one place, a text's bytes appended, a row of bytes as a text; values of any type; plain lookups in maps. -/

namespace Go.Ax
open Cel (c)
set_option linter.unusedSectionVars false
variable [Tabs]
open Go
variable {md : Md}
instance : Cel UInt8 := ⟨1, fun b => [.v (.int .u8 (b.toNat : Nat))], fun _ => rfl, fun _ z h => by rw [List.mem_singleton.1 h]; rfl, fun _ z h => by rw [List.mem_singleton.1 h]; exact .v _⟩
theorem flat_bytes (l : List UInt8) : flat l = l.map fun b => .v (.int .u8 (b.toNat : Nat)) := by
  simp only [flat]
  exact (List.map_eq_flatMap ..).symm
theorem liesAt_one {P : Program} {e : TypeId} (hc : P.cellsOf e ≠ 0) (count : Nat) (hn : 1 ≤ count) : liesAt P P.depth e count 0 e 1 = true := by
  have hd : P.depth = (2 * (P.types.size + Made.depth) + 1) + 1 := rfl
  rw [hd]
  simp only [liesAt, Bool.or_eq_true]
  left
  rw [hd]
  simp [rowAt, hc, hn, sameLayout]
section
variable {P : Program} {o : Oper} {T : Fr} {H : AHeap} {TT : Nat → TI} (hT : TOk P TT)
include hT

theorem AStepD.makeIface {t : TypeId} {x : Operand} {y : AV} (ho : o.op = .makeInterface t x) (hx : aev T x = y) (hok : (TT t).ok = true) (hu : (match (TT t).und with | .interface _ => true | _ => false) = false) : AStepD P o T H (.iface t y) H := by
  subst hx
  refine AStepD.makeInterface ho fun v w => ?_
  have := (hT t hok).run_und w
  simp only [Instr.makeInterface, Sem.run_bind, this, Result.andThen]
  split
  · rename_i h; rw [h] at hu; cases hu
  · rfl
theorem AStepD.assert_yes {xt t : TypeId} {x : Operand} {y : AV} (ho : o.op = .typeAssert x xt t true) (hx : aev T x = .iface t y) (hok : (TT t).ok = true) (hu : (match (TT t).und with | .interface _ => true | _ => false) = false) : AStepD P o T H (.tup [y, .v (.bool true)]) H := by
  refine .of_pure fun ρ I w a hc ht => ?_
  have hv := aev_eq ht hx
  generalize he : a.eval x = u at hv
  cases hv with
  | @iface _ _ u hv =>
    refine ⟨.tuple #[u, .bool true], ?_, CV.tup (vs := [_, _]) rfl fun i a u ha hu => by
      match i with
      | 0 => simp at ha hu; subst ha; subst hu; exact hv
      | 1 => simp at ha hu; subst ha; subst hu; exact .v _
      | i + 2 => simp at ha⟩
    have := (hT t hok).run_und w
    simp only [execOp, ho, he, Instr.typeAssert, Sem.run_bind, this, Result.andThen]
    clear this
    generalize (TT t).und = q at hu ⊢
    cases q <;> first | (simp [Result.andThen]; done) | (simp at hu; done)
theorem AStepD.assert_no {xt t t' : TypeId} {x : Operand} {y : AV} (ho : o.op = .typeAssert x xt t true) (hx : aev T x = .iface t' y) (hne : Nat.beq t' t = false) (hok : (TT t).ok = true) (hu : (match (TT t).und with | .interface _ => true | _ => false) = false) : AStepD P o T H (.tup [.v (TT t).zero, .v (.bool false)]) H := by
  refine .of_pure fun ρ I w a hc ht => ?_
  have hv := aev_eq ht hx
  have hne : t' ≠ t := fun e => by subst e; simp at hne
  generalize he : a.eval x = u at hv
  cases hv with
  | @iface _ _ u hv =>
    refine ⟨.tuple #[(TT t).zero, .bool false], ?_, CV.tup (vs := [_, _]) rfl fun i a u ha hu => by
      match i with
      | 0 => simp at ha hu; subst ha; subst hu; exact .v _
      | 1 => simp at ha hu; subst ha; subst hu; exact .v _
      | i + 2 => simp at ha⟩
    have := (hT t hok).run_und w
    simp only [execOp, ho, he, Instr.typeAssert, Sem.run_bind, this, Result.andThen]
    clear this
    have hz := (hT t hok).run_zero w
    generalize (TT t).zero = z0 at hz ⊢
    generalize (TT t).und = q at hu ⊢
    cases q <;> first | (simp [hne, hz, Result.andThen]; done) | (simp at hu; done)
theorem AStepD.lookup1 {t kt et : TypeId} {x y : Operand} {l : Nat} {k : IntKind} {n : Int} {es : List (Int × AV)} {z : AV} (ho : o.op = .lookup t x y false) (hx : aev T x = .map l) (hy : aev T y = .v (.int k n)) (hok : (TT t).ok = true) (hu : (TT t).und = .map kt et)
    (hokk : (TT kt).ok = true) (huk : (TT kt).und = .int k) (hoke : (TT et).ok = true) (hH : H.get l = some (.map (imap k es))) (hg : (getI es n).getD (.v (TT et).zero) = z) : AStepD P o T H z H := by
  subst hg
  refine .of_pure fun ρ I w a hc ht => ?_
  have hv := aev_eq ht hx
  have hyv := cv_v (aev_eq ht hy)
  generalize he : a.eval x = u at hv
  cases hv with
  | @map _ B hB =>
    obtain ⟨B', hB', _, ents, clock, h1, h2, h3, h4, h5⟩ := hc.obj l _ hH
    rw [hB] at hB'; cases hB'
    have hkey : MapKept.IsKey (.int k) (.int k n) := by simp [MapKept.IsKey]
    have hd : P.underlying kt = some (.int k) := by rw [(hT kt hokk).und, huk]
    have hes : ∀ (i : Nat) e en, es[i]? = some e → ents.toList[i]? = some en → en.key = .int k e.1 := fun i e en q1 q2 => (h3 i _ en (imap_get q1) (by simpa using q2)).1
    rcases findNow_int (n := n) es ents.toList 0 (by simpa [imap] using h2) hes with ⟨f1, f2, -, -⟩ | ⟨j, en, b, f1, f2, f3, f4, f5, -, -⟩
    · refine ⟨(TT et).zero, ?_, ?_⟩
      · simp [execOp, ho, he, hyv, Instr.lookup, (hT t hok).run_und w, hu, MapKept.run_getObj_map h1, MapKept.run_checkKey hd hkey, MapKept.run_findKey hd f1, (hT et hoke).run_zero w, Result.andThen]
      · rw [f2]
        exact .v _
    · refine ⟨en.val, ?_, ?_⟩
      · simp [execOp, ho, he, hyv, Instr.lookup, (hT t hok).run_und w, hu, MapKept.run_getObj_map h1, MapKept.run_checkKey hd hkey, MapKept.run_findKey hd f1, Result.andThen]
      · rw [f5]
        exact (h3 j _ en (imap_get f4) (by simpa using f2)).2
theorem AStepD.ptr_same {t yt e : TypeId} {x y : Operand} {l off : Nat} (hx : aev T x = .ptr l off) (hy : aev T y = .ptr l off) (hok : (TT t).ok = true) (hu : (TT t).und = .pointer e) (hoke : (TT e).ok = true) :
    (o.op = .binOp .eql t x y yt → AStepD P o T H (.v (.bool true)) H) ∧ (o.op = .binOp .neq t x y yt → AStepD P o T H (.v (.bool false)) H) := by
  obtain ⟨f, hf, _⟩ := (hT e hoke).info
  refine AStepD.eq_of fun ρ I w a _ ht => ?_
  obtain ⟨p, h1, h2⟩ : ∃ p : Addr, a.eval x = .pointer (some p) ∧ a.eval y = .pointer (some p) := by
    have h1 := aev_eq ht hx
    have h2 := aev_eq ht hy
    generalize a.eval x = u at h1
    generalize a.eval y = v at h2
    cases h1 with
    | @ptr _ _ B hB =>
      cases h2 with
      | @ptr _ _ B' hB' => rw [hB] at hB'; cases hB'; exact ⟨_, rfl, rfl⟩
  rw [h1, h2]
  refine ⟨fun op => by cases op <;> simp [eqGuard], fun d => ?_, rfl, rfl⟩
  simp [Op.equalIn, (hT t hok).run_und w, hu, sizeOf, typeInfo, hf, run_sameAddr_same]
theorem AStepD.to_unsafe {s d t : TypeId} {x : Operand} {l off : Nat} {ty : TypeId} {cs : List AV} (ho : o.op = .convert s d x) (hx : aev T x = .ptr l off) (hok : (TT s).ok = true) (hus : (TT s).und = .pointer t) (hokd : (TT d).ok = true) (hud : (TT d).und = .unsafePointer)
    (hokt : (TT t).ok = true) (h0 : Nat.beq (TT t).size 0 = false) (hH : H.get l = some (.cells ty cs)) (hoff : off < cs.length) : AStepD P o T H (.ptr l off) H := by
  refine .of_pure fun ρ I w a hc ht => ?_
  have h1 := aev_eq ht hx
  obtain ⟨B, hB, _, arr, harr, hsz, hcl, _⟩ := hc.obj l _ hH
  generalize he : a.eval x = u at h1
  cases h1 with
  | @ptr _ _ B' hB' =>
    rw [hB] at hB'; cases hB'
    obtain ⟨f, hf, _, hfs, _⟩ := (hT t hokt).info
    refine ⟨_, ?_, .ptr hB⟩
    simp only [execOp, ho, Sem.run_bind, he]
    rw [Lib.run_to_unsafe w ⟨B.b, off, none⟩ (hus ▸ (hT s hok).und) (hud ▸ (hT d hokd).und) hf (by rw [hfs]; intro e; rw [e] at h0; simp at h0) harr.shape (by show off < arr.size; omega)]
    rfl
theorem AStepD.from_unsafe {s d t : TypeId} {x : Operand} {l : Nat} {cs : List AV} (ho : o.op = .convert s d x) (hx : aev T x = .ptr l 0) (hok : (TT s).ok = true) (hus : (TT s).und = .unsafePointer) (hokd : (TT d).ok = true) (hud : (TT d).und = .pointer t)
    (hokt : (TT t).ok = true) (hH : H.get l = some (.cells t cs)) (h0 : 0 < cs.length) (hs : (TT t).size = cs.length) : AStepD P o T H (.ptr l 0) H := by
  refine .of_pure fun ρ I w a hc ht => ?_
  have h1 := aev_eq ht hx
  obtain ⟨B, hB, _, arr, harr, hsz, hcl, _⟩ := hc.obj l _ hH
  generalize he : a.eval x = u at h1
  cases h1 with
  | @ptr _ _ B' hB' =>
    rw [hB] at hB'; cases hB'
    obtain ⟨f, hf, _, hfs, _⟩ := (hT t hokt).info
    have hce := (hT t hokt).cellsOf
    refine ⟨_, ?_, .ptr hB⟩
    simp only [execOp, ho, Sem.run_bind, he]
    rw [Lib.run_from_unsafe w ⟨B.b, 0, none⟩ (hus ▸ (hT s hok).und) (hud ▸ (hT d hokd).und) hf harr.shape (liesAt_one (by rw [hce]; omega) _ (by rw [hce]; exact (Nat.le_div_iff_mul_le (by omega)).2 (by omega)))]
    rfl
omit hT in
theorem AStepD.noEscape {f : FuncId} {fn : Func} {x : Operand} {ats : Array TypeId} {y : AV} (ho : o.op = .call { callee := .value (.func f), args := #[x], argTypes := ats }) (hx : aev T x = y) (hf : P.funcs[f]? = some fn)
    (hname : (fn.name == "runtime.NumGoroutine") = false) (hb : fn.body.isNone = true) (hn : Extern.findNext fn = none) (he : Extern.find fn = some Extern.AbiNoEscape.same) : AStepD P o T H y H :=
  .extern ho hf hname hb hn he fun ρ I w a hc ht => ⟨_, by rw [show (#[x] : Array Operand).map a.eval = #[a.eval x] from by simp]; exact Lib.run_noEscape w _, aev_eq ht hx⟩
theorem AStepD.append_str {t t2 e : TypeId} {x z : Operand} {b : Nat} {l : List UInt8} {s : List UInt8} {y : AV} (ho : o.op = .call { callee := .builtin .append, args := #[x, z], argTypes := #[t, t2] }) (hx : aev T x = y) (hy : Lst e b H y l) (hz : aev T z = .v (.string ⟨s.toArray⟩))
    (hok : (TT t).ok = true) (hu : (TT t).und = .slice e) (hok2 : (TT t2).ok = true) (hu2 : (TT t2).und = .string) (hoke : (TT e).ok = true) (hk : (TT e).size = 1) (hbk : (TT e).bytes = 1) (hn : s ≠ []) (hm : l.length + s.length ≤ 140737488355328) :
    AStepD P o T H (.sl H.next 0 (l ++ s).length 1) ((H.new (.cells e (flat (l ++ s)))).delv y) := by
  have hread : ∀ ρ I w a, Conc ρ I w H → TV ρ I T a → (∀ w', (Builtin.lenOf (a.eval z)).run P w' = .ok s.length w') ∧ ∃ news : List Value, news.length = (flat s).length ∧ (∀ w', w'.heap = w.heap → (Builtin.firstCells (TT e).size s.length (a.eval z)).run P w' = .ok news.toArray w') ∧ ∀ (i : Nat) b v, (flat s)[i]? = some b → news[i]? = some v → CV ρ I b v := by
    intro ρ I w a hc ht
    have h1 := cv_v (aev_eq ht hz)
    rw [h1]
    refine ⟨fun w' => by simp [Builtin.lenOf, ByteArray.size], s.map fun b => .int .u8 (b.toNat : Nat), by rw [flat_bytes]; simp, fun w' _ => by simp [Builtin.firstCells], fun i b v hb hv => ?_⟩
    rw [flat_bytes, List.getElem?_map] at hb
    rw [List.getElem?_map] at hv
    cases hg : s[i]? with
    | none => rw [hg] at hb; cases hb
    | some c =>
      rw [hg] at hb hv
      cases hb; cases hv
      exact .v _
  have hlen : 0 < s.length := List.length_pos_iff.2 hn
  have hfl : (flat s).length = s.length * 1 := flat_length s
  rw [List.length_append]
  cases hy with
  | nil =>
    rw [List.nil_append, List.length_nil, Nat.zero_add]
    exact .append_nil_gen hT ho hx hread hfl hlen hok hoke hok2 hu ⟨e, .inr hu2⟩ hk (by rw [hbk]; simpa using hm) (by simp at hm; omega)
  | sl hD hN h =>
    rw [flat_append]
    exact .append_gen hT ho hx h (flat_length l) hread hfl (flat_ones s) hok hoke hok2 hu ⟨e, .inr hu2⟩ hk rfl (by rw [hbk]; omega) (by omega)
omit hT in
theorem AStepD.sliceData {t : TypeId} {x : Operand} {l n : Nat} (ho : o.op = .call { callee := .builtin .unsafeSliceData, args := #[x], argTypes := #[t] }) (hx : aev T x = .sl l 0 n 1) (h0 : 0 < n) : AStepD P o T H (.ptr l 0) H := by
  refine .of_pure fun ρ I w a hc ht => ?_
  have h1 := aev_eq ht hx
  generalize he : a.eval x = u at h1
  cases h1 with
  | @sl _ _ _ _ c B hB h2 h3 h4 =>
    refine ⟨_, run_builtin ho a w ?_, .ptr hB⟩
    rw [show (#[x] : Array Operand).map a.eval = #[a.eval x] from by simp, he]
    simp only [builtin, Sem.run_bind]
    rw [Lib.run_unsafeSliceData_row w _ _ _ _ _ (by omega)]
    rfl
theorem AStepD.unsafeString {pt it e : TypeId} {x y : Operand} {L n : Nat} {l : List UInt8} (ho : o.op = .call { callee := .builtin .unsafeString, args := #[x, y], argTypes := #[pt, it] }) (hx : aev T x = .ptr L 0) (hy : aev T y = .v (.int .i64 (n : Nat))) (hn : n = l.length) (h0 : l ≠ []) (hm : l.length ≤ maxLen)
    (hok : (TT pt).ok = true) (hu : (TT pt).und = .pointer e) (hoke : (TT e).ok = true) (hs : (TT e).size = 1) (hH : H.get L = some (.cells e (flat l))) : AStepD P o T H (.v (.string ⟨l.toArray⟩)) (H.del L) := by
  subst hn
  refine AStep.of_run fun ρ I w a hc ht => ?_
  have h1 := aev_eq ht hx
  have h2 := cv_v (aev_eq ht hy)
  obtain ⟨B, hB, _, arr, harr, hsz, hcl, hcv⟩ := hc.obj L _ hH
  have hfl : (flat l).length = l.length := (flat_length l).trans (Nat.mul_one _)
  generalize he : a.eval x = u at h1
  cases h1 with
  | @ptr _ _ B' hB' =>
    rw [hB] at hB'; cases hB'
    have hcell : ∀ j x, l[j]? = some x → w.cell? ((⟨B.b, 0, none⟩ : Addr).add j) = some (.int .u8 x.toNat) := by
      intro j x hj
      have hjl := (List.getElem?_eq_some_iff.1 hj).1
      rw [add_none, Nat.zero_add, harr.cell]
      have hb : (flat l)[j]? = some (.v (.int .u8 (x.toNat : Nat))) := by rw [flat_bytes, List.getElem?_map, hj]; rfl
      have ha : arr[j]? = some arr[j] := Array.getElem?_eq_getElem (by omega)
      rw [ha, cv_v (hcv j _ _ hb ha)]
    have hrun := Lib.run_unsafeString_row (P := P) w pt it o.type e (hu ▸ (hT pt hok).und) (by rw [(hT e hoke).cellsOf, hs]) B.b arr.size harr.shape l h0 (by omega) hm hcell
    obtain ⟨I', arr', hI, hIb, h3, h4, hc', ev⟩ := hc.freeze_mark (k := 0) (m := l.length) hH hB
    refine ⟨_, _, _, ρ, I', _, run_builtin ho a w ?_, ⟨rfl, rfl⟩, .v _, hc', ev⟩
    rw [show (#[x, y] : Array Operand).map a.eval = #[a.eval x, a.eval y] from by simp, he, h2]
    simp only [builtin, Sem.run_bind, hrun, Result.andThen, Sem.run_pure]
end
end Go.Ax

/- The abstract layer, part 40: contracts of the kit's shelf over a row of integers that is written in place. -/

namespace Go.Ax
open Cel (c)
set_option linter.unusedSectionVars false
variable [Tabs]
open Go
theorem AHeap.set_eq {H : AHeap} {l : Nat} {o : AObj} (h : H.get l = some o) : H.set l o = H := by
  refine AHeap.ext (fun k => ?_) rfl
  by_cases e : k = l
  · subst e; rw [h, AHeap.get_set_same]
  · rw [AHeap.get_set_ne _ _ e]
theorem flat_ints (l : List Int) : flat l = (l.map (Value.int .i64)).map .v := by
  rw [List.map_map]
  exact (List.map_eq_flatMap ..).symm
theorem putRow_ints (w : World) (b : Nat) (zs : List Int) : Sort.putRow (Value.int .i64) w b 0 zs.toArray = Sort.putRow id w b 0 (zs.map (Value.int .i64)).toArray := by
  simp only [Sort.putRow]
  congr 1
  funext cells
  simp only [Sort.putCells]
  congr 1
  funext i q
  simp only [List.size_toArray, List.length_map]
  by_cases h : i < zs.length
  · have h1 : i - 0 < zs.length := by omega
    simp [h, h1]
  · simp [h]
theorem ACalls.ints_row {P : Program} {f : FuncId} {H : AHeap} {D : Nat} {t : TypeId} {zs zs' : List Int} {r : AV} {Ret : Value → Nat → Nat → Prop} (hD : H.get D = some (.cells t (flat zs))) (hz : zs'.length = zs.length)
    (h : ∀ (w : World) (b cap : Nat), zs.length ≤ cap → cap ≤ maxLen → Sort.Holds (Value.int .i64) w b 0 zs.toArray → b < w.heap.size →
      Calls P f #[.slice (some ⟨b, 0, none⟩) zs.length cap] w fun e w' => ∃ u n os, e = .returned u ∧ w' = Sort.grow (Sort.putRow (Value.int .i64) (Sort.ahead w n) b 0 zs'.toArray) os ∧ Ret u b cap)
    (hr : ∀ ρ I B cap u, ρ D = some B → zs.length ≤ cap → cap ≤ maxLen → cap ≤ B.sz → Ret u B.b cap → CV ρ I r u) :
    ACalls P f [.sl D 0 zs.length 1] H (fun r' H' => r' = r ∧ H' = H.set D (.cells t (flat zs'))) := by
  intro ρ I w vs hc ha
  obtain ⟨u0, rfl⟩ : ∃ u0, vs = [u0] := by
    have := ha.1
    match vs, this with
    | [a], _ => exact ⟨a, rfl⟩
  have h0 := ha.2 0 _ u0 rfl rfl
  obtain ⟨B, q, hB, rfl, hq1, hq2, hq3⟩ : ∃ B q, ρ D = some B ∧ u0 = .slice (some ⟨B.b, 0, none⟩) zs.length q ∧ zs.length ≤ q ∧ q ≤ maxLen ∧ 0 + q * 1 ≤ B.sz := by
    cases h0 with | sl hB hl hm hs => exact ⟨_, _, hB, rfl, hl, hm, hs⟩
  obtain ⟨B', hB', _, arr, ⟨fz, g1, gz⟩, g2, g3, g4⟩ := hc.obj D _ hD
  rw [hB] at hB'; cases hB'
  have hfl : (flat zs).length = zs.length := (flat_length zs).trans (Nat.mul_one _)
  have hH : Sort.Holds (Value.int .i64) w B.b 0 zs.toArray := by
    intro j hj
    have hjz : j < zs.length := by simpa using hj
    have hja : j < arr.size := by omega
    have hcell : (flat zs)[j]? = some (.v (.int .i64 zs[j])) := by
      rw [flat_ints, List.getElem?_map, List.getElem?_map, List.getElem?_eq_getElem hjz]; rfl
    have hv := cv_v (g4 j _ arr[j] hcell (by simp [hja]))
    rw [Nat.zero_add]
    constructor
    · simp only [World.cell?, g1]
      simp [hja, hv, hjz]
    · simp only [World.frozen?, g1]
      rcases gz with rfl | ⟨gz, _⟩
      · simp
      · simp; omega
  refine Calls.mono (h w B.b q hq1 hq2 hH (Array.getElem?_eq_some_iff.1 g1).1) ?_
  rintro e w' ⟨u, n, os, rfl, rfl, hret⟩
  obtain ⟨c1, c2⟩ := hc.putRow (F := zs.map (Value.int .i64)) (G := zs'.map (Value.int .i64)) (by rw [hD, flat_ints]) hB (by simp [hz]) n os
  rw [putRow_ints]
  refine ⟨_, r, ρ, I, _, rfl, ⟨rfl, rfl⟩, hr ρ I B q u hB hq1 hq2 (by omega) hret, ?_, ?_⟩
  · rw [flat_ints zs']; exact c1
  · rw [flat_ints zs']; exact c2
theorem AW.vec_cell {md : Md} {P : Program} {cd : Code} {Q : APost} {T : Fr} {H : AHeap} {n X b : Nat} {α : Type} [Cel α] {t tX : TypeId} {y : AV} {l : List α} {pre post : List AV} (hX : H.get X = some (.cells tX (pre ++ y :: post))) (hy : Lst t b H y l) (hXb : X < b)
    (h : AW md P cd Q T ((H.delv y).set X (.cells tX (pre ++ vecA l :: post))) n) : AW md P cd Q T H n := by
  have hF : ∀ (i : Nat) a c, (pre ++ y :: post)[i]? = some a → (pre ++ vecA l :: post)[i]? = some c → a = c ∨ (a = y ∧ c = vecA l) := by
    intro i a c ha hc
    rcases Nat.lt_trichotomy i pre.length with hi | hi | hi
    · rw [List.getElem?_append_left hi] at ha hc
      rw [ha] at hc; cases hc; exact .inl rfl
    · subst hi
      rw [List.getElem?_append_right (Nat.le_refl _), Nat.sub_self] at ha hc
      cases ha; cases hc; exact .inr ⟨rfl, rfl⟩
    · rw [List.getElem?_append_right (by omega)] at ha hc
      obtain ⟨j, hj⟩ : ∃ j, i - pre.length = j + 1 := ⟨i - pre.length - 1, by omega⟩
      rw [hj, List.getElem?_cons_succ] at ha hc
      rw [ha] at hc; cases hc; exact .inl rfl
  cases hy with
  | nil =>
    intro ρ I w a hc ht hn hd
    have hc2 := hc.retell hX (bs := pre ++ vecA ([] : List α) :: post) (by simp) fun i a b u ha hb hu => by
      rcases hF i a b ha hb with rfl | ⟨rfl, rfl⟩
      · exact hu
      · exact SubV.nil_vecA ρ I u hu
    have ev := Ev.shrink (ρ := ρ) (I := I) (w := w) (o' := .cells tX (pre ++ vecA ([] : List α) :: post)) hX
    exact wpIn_mono (h ρ I w a hc2 ht hn (hd.ev ev)) fun _ _ _ f => f.of_ev ev
  | @sl D _ hD hN hg =>
    refine AW.freeze_cell (bs := pre ++ vecA l :: post) hg hX (by omega) (by simp) (fun i a c ha hc => ?_) h
    rcases hF i a c ha hc with rfl | ⟨rfl, rfl⟩
    · exact .same _
    · have h1 : Frz D (flat l) (.sl D 0 l.length (Cel.n α)) (.vec l.length (((flat l).drop 0).take (l.length * Cel.n α))) := .sl (by rw [flat_length]; omega)
      rwa [List.drop_zero, List.take_of_length_le (by rw [flat_length]; exact Nat.le_refl _)] at h1
theorem AStepD.index_ints {P : Program} {o : Oper} {T : Fr} {H : AHeap} {TT : Nat → TI} (hT : TOk P TT) {t e : TypeId} {x y : Operand} {l : List Int} {n i : Nat} {k : IntKind} {j : Int} (ho : o.op = .index t x y) (hx : aev T x = .agg (flat l)) (hy : aev T y = .v (.int k j)) (hok : (TT t).ok = true) (hu : (TT t).und = .array n e) (hoke : (TT e).ok = true)
    (hag : (TT e).agg = false) (hs : (TT e).size = 1) (hn : n = l.length) (hj : j = (i : Int)) (hi : i < l.length) : AStepD P o T H (.v (.int .i64 (l.getD i 0))) H := by
  have hfl : (flat l).length = l.length := (flat_length l).trans (Nat.mul_one _)
  have h := AStepD.index_arr (H := H) hT ho hx hy hok hoke hu hj (by omega) (by rw [hs]; omega) (fun _ => hs)
  rw [hag, hs] at h
  have hd : ((flat l).drop (i * 1)).take 1 = [.v (.int .i64 l[i])] := flat_at l i hi
  rw [hd] at h
  rw [List.getD_eq_getElem?_getD, List.getElem?_eq_getElem hi, Option.getD_some]
  exact h
end Go.Ax

/- The abstract layer, part 41: values made of integers alone (arrays, structs of them) compared. -/

namespace Go.Ax
open Cel (c)
set_option linter.unusedSectionVars false
variable [Tabs]
open Go
def intsT (P : Program) (TT : Nat → TI) : Nat → TypeId → Bool
  | 0, _ => false
  | d + 1, t => (TT t).ok && match (TT t).und with
    | .int .i64 => !(TT t).agg && Nat.beq (TT t).size 1
    | .array n e => (TT t).agg && intsT P TT d e && Nat.beq (TT t).size (n * (TT e).size)
    | .struct fs => (TT t).agg && !P.stoodInHeld t && (fs.toList.all fun f => f.name != "_" && intsT P TT d f.type) && (match fieldsSeq TT 0 fs.toList with | some e => Nat.beq e (TT t).size | none => false)
    | _ => false
def valI (agg : Bool) (xs : List Int) : Value := if agg then .agg (xs.map fun a => Value.int .i64 a).toArray else .int .i64 (xs.headD 0)
section
variable {P : Program} {TT : Nat → TI} (hT : TOk P TT)
include hT
theorem intsT_ok {d t : Nat} (h : intsT P TT d t = true) : (TT t).ok = true := by
  cases d with
  | zero => cases h
  | succ d => simp only [intsT, Bool.and_eq_true] at h; exact h.1
theorem intsT_one {d t : Nat} (h : intsT P TT d t = true) : (TT t).agg = false → (TT t).size = 1 := by
  cases d with
  | zero => cases h
  | succ d =>
    simp only [intsT, Bool.and_eq_true] at h
    intro ha
    obtain ⟨_, h⟩ := h
    split at h
    · simp only [Bool.and_eq_true] at h; exact Nat.eq_of_beq_eq_true h.2
    · rw [ha] at h; simp at h
    · rw [ha] at h; simp at h
    · cases h
theorem part_ints {d t : Nat} (h : intsT P TT d t = true) (xs : List Int) (off : Nat) (hk : off + (TT t).size ≤ xs.length) (w : World) :
    (part t (xs.map fun a => Value.int .i64 a).toArray off).run P w = .ok (valI (TT t).agg ((xs.drop off).take (TT t).size)) w := by
  have h1 := run_part (w := w) (hT t (intsT_ok hT h)) (vs := xs.map fun a => Value.int .i64 a) (off := off) (by rw [List.length_map]; exact hk) (intsT_one hT h)
  rw [h1, valI]
  split
  · rw [← List.map_drop, ← List.map_take]
  · rename_i ha
    have hs := intsT_one hT h (by simpa using ha)
    rw [hs] at hk ⊢
    rw [← List.map_drop, ← List.map_take, List.drop_eq_getElem_cons (by omega)]
    rfl
theorem run_equal_ints : ∀ (d : Nat) (t : TypeId) (xs ys : List Int) (D : Nat) (w : World), intsT P TT d t = true → xs.length = (TT t).size → ys.length = (TT t).size →
    (Op.equalIn (D + d) t (valI (TT t).agg xs) (valI (TT t).agg ys)).run P w = .ok (decide (xs = ys)) w
  | 0, _, _, _, _, _, h, _, _ => by cases h
  | d + 1, t, xs, ys, D, w, h, hx, hy => by
    have hok := intsT_ok hT h
    have hund := (hT t hok).und
    simp only [intsT, Bool.and_eq_true] at h
    obtain ⟨_, h⟩ := h
    split at h
    · rename_i hu
      rw [hu] at hund
      simp only [Bool.and_eq_true, Bool.not_eq_true'] at h
      have hs := Nat.eq_of_beq_eq_true h.2
      rw [hs] at hx hy
      match xs, ys, hx, hy with
      | [a], [b], _, _ =>
        simp only [valI, h.1, Bool.false_eq_true, if_false, List.headD_cons]
        rw [show D + (d + 1) = (D + d) + 1 from rfl, run_equalIn_int w (D + d) t .i64 .i64 a b hund]
        congr 1
        rw [Bool.eq_iff_iff]; simp
    · rename_i n e hu
      rw [hu] at hund
      simp only [Bool.and_eq_true] at h
      obtain ⟨⟨ha, he⟩, hsz⟩ := h
      have hsz := Nat.eq_of_beq_eq_true hsz
      obtain ⟨f, hf, _, hfs, _⟩ := (hT e (intsT_ok hT he)).info
      simp only [valI, ha, if_true]
      rw [show D + (d + 1) = (D + d) + 1 from rfl, run_equalIn_array w (D + d) _ _ hund hf, (hT e (intsT_ok hT he)).cellsOf]
      have key : ∀ (k j : Nat), j + k = n → (Op.eqItems (D + d) e (TT e).size (xs.map fun a => Value.int .i64 a).toArray (ys.map fun a => Value.int .i64 a).toArray ((List.range' j k))).run P w = .ok (decide (xs.drop (j * (TT e).size) = ys.drop (j * (TT e).size))) w := by
        intro k
        induction k with
        | zero =>
          intro j hj
          have h1 : xs.drop (j * (TT e).size) = [] := List.drop_of_length_le (by rw [hx, hsz, ← hj]; simp)
          have h2 : ys.drop (j * (TT e).size) = [] := List.drop_of_length_le (by rw [hy, hsz, ← hj]; simp)
          rw [h1, h2]; rfl
        | succ k ih =>
          intro j hj
          have hle : j * (TT e).size + (TT e).size ≤ n * (TT e).size := by rw [← Nat.succ_mul]; exact Nat.mul_le_mul_right _ (by omega)
          have e1 : xs.drop (j * (TT e).size) = (xs.drop (j * (TT e).size)).take (TT e).size ++ xs.drop ((j + 1) * (TT e).size) := by rw [Nat.succ_mul, ← List.drop_drop, List.take_append_drop]
          have e2 : ys.drop (j * (TT e).size) = (ys.drop (j * (TT e).size)).take (TT e).size ++ ys.drop ((j + 1) * (TT e).size) := by rw [Nat.succ_mul, ← List.drop_drop, List.take_append_drop]
          have hr := run_equal_ints d e ((xs.drop (j * (TT e).size)).take (TT e).size) ((ys.drop (j * (TT e).size)).take (TT e).size) D w he (by rw [List.length_take, List.length_drop]; omega) (by rw [List.length_take, List.length_drop]; omega)
          rw [List.range'_succ]
          simp only [Op.eqItems, Sem.run_bind, part_ints hT he xs (j * (TT e).size) (by omega), part_ints hT he ys (j * (TT e).size) (by omega), Result.andThen, hr]
          by_cases hq : (xs.drop (j * (TT e).size)).take (TT e).size = (ys.drop (j * (TT e).size)).take (TT e).size
          · rw [decide_eq_true hq]
            simp only [Bool.not_true, Bool.false_eq_true, if_false]
            rw [ih (j + 1) (by omega)]
            congr 1
            refine decide_eq_decide.2 ?_
            conv => rhs; rw [e1, e2, hq]
            exact List.append_cancel_left_eq .. ▸ Iff.rfl
          · rw [decide_eq_false hq]
            simp only [Bool.not_false, if_true, Sem.run_pure]
            congr 1
            refine (decide_eq_false fun hh => hq ?_).symm
            exact congrArg (fun l => l.take (TT e).size) hh
      have := key n 0 (by omega)
      rw [Nat.zero_mul, List.drop_zero, List.drop_zero] at this
      rw [List.range_eq_range']
      exact this
    · rename_i fs hu
      rw [hu] at hund
      simp only [Bool.and_eq_true, Bool.not_eq_true'] at h
      obtain ⟨⟨⟨ha, hst⟩, hall⟩, hseq⟩ := h
      have hfo : P.fieldsOf t = fs := by simp [Program.fieldsOf, hund]
      simp only [valI, ha, if_true]
      rw [show D + (d + 1) = (D + d) + 1 from rfl, run_equalIn_struct (P := P) w (D + d) t _ _ (by rw [hfo]; exact hund) hst, hfo]
      have key : ∀ (l : List Field) (o : Nat), (∀ f ∈ l, f ∈ fs.toList) → fieldsSeq TT o l = some (TT t).size → o ≤ (TT t).size → (Op.eqFields (D + d) (xs.map fun a => Value.int .i64 a).toArray (ys.map fun a => Value.int .i64 a).toArray l).run P w = .ok (decide (xs.drop o = ys.drop o)) w := by
        intro l
        induction l with
        | nil =>
          intro o _ hs _
          simp only [fieldsSeq, Option.some.injEq] at hs
          rw [List.drop_of_length_le (by omega : xs.length ≤ o), List.drop_of_length_le (by omega : ys.length ≤ o)]; rfl
        | cons f l ih =>
          intro o hm hs ho
          have hf := List.all_eq_true.1 hall f (hm f (List.mem_cons_self ..))
          simp only [Bool.and_eq_true, bne_iff_ne, ne_eq] at hf
          simp only [fieldsSeq] at hs
          have mono : ∀ (l : List Field) (o e : Nat), fieldsSeq TT o l = some e → o ≤ e := by
            intro l
            induction l with
            | nil => intro o e h; simp only [fieldsSeq, Option.some.injEq] at h; omega
            | cons g l ih =>
              intro o e h
              simp only [fieldsSeq] at h
              cases hb : Nat.beq g.offset o with
              | true => rw [hb] at h; have := ih _ _ h; omega
              | false => rw [hb] at h; cases h
          cases hb : Nat.beq f.offset o with
          | false => rw [hb] at hs; cases hs
          | true =>
            rw [hb] at hs
            have hs : fieldsSeq TT (o + (TT f.type).size) l = some (TT t).size := hs
            have hob := Nat.eq_of_beq_eq_true hb
            have hle := mono _ _ _ hs
            have hr := run_equal_ints d f.type ((xs.drop o).take (TT f.type).size) ((ys.drop o).take (TT f.type).size) D w hf.2 (by rw [List.length_take, List.length_drop]; omega) (by rw [List.length_take, List.length_drop]; omega)
            have e1 : xs.drop o = (xs.drop o).take (TT f.type).size ++ xs.drop (o + (TT f.type).size) := by rw [← List.drop_drop, List.take_append_drop]
            have e2 : ys.drop o = (ys.drop o).take (TT f.type).size ++ ys.drop (o + (TT f.type).size) := by rw [← List.drop_drop, List.take_append_drop]
            simp only [Op.eqFields, hf.1, ne_eq, not_false_eq_true, if_true, Sem.run_bind, hob, part_ints hT hf.2 xs o (by omega), part_ints hT hf.2 ys o (by omega), Result.andThen, hr]
            by_cases hq : (xs.drop o).take (TT f.type).size = (ys.drop o).take (TT f.type).size
            · rw [decide_eq_true hq]
              simp only [Bool.not_true, Bool.false_eq_true, if_false]
              rw [ih _ (fun g hg => hm g (List.mem_cons_of_mem _ hg)) hs hle]
              congr 1
              refine decide_eq_decide.2 ?_
              conv => rhs; rw [e1, e2, hq]
              exact List.append_cancel_left_eq .. ▸ Iff.rfl
            · rw [decide_eq_false hq]
              simp only [Bool.not_false, if_true, Sem.run_pure]
              congr 1
              refine (decide_eq_false fun hh => hq ?_).symm
              exact congrArg (fun l => l.take (TT f.type).size) hh
      split at hseq
      · rename_i e he
        rw [Nat.eq_of_beq_eq_true hseq] at he
        have := key fs.toList 0 (fun _ h => h) he (Nat.zero_le _)
        rwa [List.drop_zero, List.drop_zero] at this
      · cases hseq
    · cases h
theorem AStepD.ints_eq {o : Oper} {T : Fr} {H : AHeap} {t yt : TypeId} {x y : Operand} {xs ys : List Int} {b : Bool} (d : Nat) (op : BinOp) (hop : op = .eql ∨ op = .neq) (ho : o.op = .binOp op t x y yt) (hx : aev T x = .agg (flat xs)) (hy : aev T y = .agg (flat ys)) (hag : (TT t).agg = true) (hd : Nat.ble d 10000 = true)
    (hi : intsT P TT d t = true) (hg : P.eqGuardType P.depth t = false) (hl : xs.length = (TT t).size) (hl' : ys.length = (TT t).size) (hb : (if op = .eql then decide (xs = ys) else !decide (xs = ys)) = b) : AStepD P o T H (.v (.bool b)) H := by
  subst hb
  refine .of_pure fun ρ I w a hc ht => ⟨_, ?_, .v _⟩
  have h1 := aev_eq ht hx
  have h2 := aev_eq ht hy
  obtain ⟨e1, e2⟩ : a.eval x = .agg (xs.map fun a => Value.int .i64 a).toArray ∧ a.eval y = .agg (ys.map fun a => Value.int .i64 a).toArray := by
    have hz : ∀ l : List Int, flat l = zA l := fun l => (List.map_eq_flatMap ..).symm
    rw [hz] at h1 h2
    generalize a.eval x = u at h1
    generalize a.eval y = v at h2
    cases h1 with | agg g1 g2 =>
    cases h2 with | agg k1 k2 =>
    rw [zA_vals g1 g2, zA_vals k1 k2]
    exact ⟨rfl, rfl⟩
  have hr := run_equal_ints hT d t xs ys (10000 - d) w hi hl hl'
  rw [Nat.sub_add_cancel (Nat.le_of_ble_eq_true hd)] at hr
  simp only [valI, hag, if_true] at hr
  rcases hop with rfl | rfl
  · simp only [execOp, ho, Sem.run_bind, e1, e2, run_eqGuard_agg w _ t x y _ _ hg, run_eql_struct, hr, Result.andThen, Sem.run_pure, if_true]
  · simp only [execOp, ho, Sem.run_bind, e1, e2, run_eqGuard_agg w _ t x y _ _ hg, run_neq_struct, hr, Result.andThen, Sem.run_pure]
    rfl
end
end Go.Ax

/- The abstract layer, part 42: steps in short, for regions printed as one chain. -/

namespace Go.Ax
open Cel (c)
set_option linter.unusedSectionVars false
variable [Tabs]
variable {md : Md} {P : Program} {ops : Array Oper} {Q : APost} {os : List Oper} {T : Fr} {H H1 : AHeap} {n : Nat} {o : Oper} {x : AV}

structure SD (P : Program) (ops : Array Oper) (n d : Nat) (o : Oper) (T : Fr) (H : AHeap) (x : AV) (H1 : AHeap) : Prop where
  hd : o.dst = some d
  hn : Nat.blt d n = true
  h : GStep P ops n o T H x H1
theorem SD.s {d : Nat} (hd : o.dst = some d) (hn : Nat.blt d n = true) (hg : o.guard = none) (h : AStepD P o T H x H1) : SD P ops n d o T H x H1 := ⟨hd, hn, GStep.plain hg h⟩
theorem AL.gs (hd : dstB o n = true) (h : GStep P ops n o T H x H1) (k : AL md P ops Q os (putA T o.dst x) H1 n) : AL md P ops Q (o :: os) T H n := by
  intro ρ0 I0 w0 H0 ρ I w a ev hc ht hn hde
  have g := h ρ I w a hc ht hn
  unfold wpListIn
  by_cases hw : Region.wanted o (yielded ops a.tmps)
  · rw [if_pos hw] at g ⊢
    refine Oper.wpIn_mono ?_ (AStep.at g _)
    intro a' w' ⟨u, x, ρ', I', H', ha, hk, hx, hc', ev'⟩
    obtain ⟨rfl, rfl⟩ := hk
    subst ha
    exact k ρ0 I0 w0 H0 ρ' I' w' _ (ev.trans ev') hc' ((ht.mono ev'.rho ev'.imm).put (by rw [hn]; exact dstB_spec hd) hx) (by rw [put_size, hn]) (by rw [put_defers]; exact hde.ev ev')
  · rw [if_neg hw] at g ⊢
    obtain ⟨rfl, hx⟩ := g
    exact ⟨fun _ _ => trivial, k ρ0 I0 w0 H0 ρ I w _ ev hc (ht.put (by rw [hn]; exact dstB_spec hd) hx) (by rw [put_size, hn]) (by rw [put_defers]; exact hde)⟩
theorem st {d : Nat} (h : SD P ops n d o T H x H1) (k : AL md P ops Q os ((d, x) :: T) H1 n) : AL md P ops Q (o :: os) T H n := by
  refine AL.gs (by simp only [dstB, h.hd]; exact decide_eq_true (Eq.mp Nat.blt_eq h.hn)) h.h ?_
  rw [h.hd]; exact k
theorem st0 (h : o.dst = none ∧ o.guard = none ∧ AStepD P o T H x H1) (k : AL md P ops Q os T H1 n) : AL md P ops Q (o :: os) T H n := AL.step0 h.2.1 h.1 h.2.2 k

theorem rg {id : Nat} {y : Code} (h : ∀ K : Fr → AHeap → Prop, (∀ T H, AW md P y Q T H n → K T H) → AL md P ops (AThen K Q) ops.toList T H n) : AW md P (.seq (.region id ops false) y) Q T H n := AW.seq_region h
theorem nt {next : Fr → AHeap → Prop} (h : next T H) : AL md P ops (AThen next Q) [] T H n := AL.nil_then h

structure UW (l : List Nat) (p : Prop) : Prop where
  h : p
theorem UW.yes {s : Nat} {l : List Nat} {g : Bool} {a : AV} (hx : look T s = .cond g a) (hg : g = true) (h : UW l (AStepD P o ((s, a) :: T) H x H1)) : UW (s :: l) (AStepD P o T H x H1) := ⟨AStepD.uncond s hx hg h.h⟩
theorem UW.no {s : Nat} {l : List Nat} {p : Prop} (h : UW l p) : UW (s :: l) p := ⟨h.h⟩
theorem UW.nil {p : Prop} (h : p) : UW [] p := ⟨h⟩
structure GW (l : List Nat) (p : Prop) : Prop where
  p : p
theorem GW.may {l : List Nat} {j e d : Nat} {want b : Bool} (hd : o.dst = some d) (hn : Nat.blt d n = true) (hg : o.guard = some (j, want)) (hj : (ops[j]?).bind (·.dst) = some e) (he : Nat.blt e n = true) (hb : look T e = .v (.bool b)) (h : b = want → UW l (AStepD P o T H x H)) : GW l (SD P ops n d o T H (.cond (b == want) x) H) :=
  ⟨⟨hd, hn, .may hg hj he hb fun k => (h k).h⟩⟩
theorem GW.may2 {l : List Nat} {j e d : Nat} {want b c : Bool} (hd : o.dst = some d) (hn : Nat.blt d n = true) (hg : o.guard = some (j, want)) (hj : (ops[j]?).bind (·.dst) = some e) (he : Nat.blt e n = true) (hb : look T e = .cond c (.v (.bool b))) (h : c = true → b = want → UW l (AStepD P o T H x H)) : GW l (SD P ops n d o T H (.cond (c && (b == want)) x) H) :=
  ⟨⟨hd, hn, .may2 hg hj he hb fun c k => (h c k).h⟩⟩
theorem GW.yes {l : List Nat} {d : Nat} {j e : Nat} {want b : Bool} (hd : o.dst = some d) (hn : Nat.blt d n = true) (hg : o.guard = some (j, want)) (hj : (ops[j]?).bind (·.dst) = some e) (he : Nat.blt e n = true) (hb : look T e = .v (.bool b)) (hbw : b = want) (h : AStepD P o T H x H1) : GW l (SD P ops n d o T H x H1) := ⟨⟨hd, hn, .yes hg hj he hb hbw h⟩⟩
theorem GW.no {l : List Nat} {d : Nat} {j e : Nat} {want b : Bool} (hd : o.dst = some d) (hn : Nat.blt d n = true) (hg : o.guard = some (j, want)) (hj : (ops[j]?).bind (·.dst) = some e) (he : Nat.blt e n = true) (hb : look T e = .v (.bool b)) (hbw : b = !want) : GW l (SD P ops n d o T H (.v undef) H) := ⟨⟨hd, hn, .no hg hj he hb hbw⟩⟩
theorem GW.none {l : List Nat} {d : Nat} {j e : Nat} {want : Bool} (hd : o.dst = some d) (hn : Nat.blt d n = true) (hg : o.guard = some (j, want)) (hj : (ops[j]?).bind (·.dst) = some e) (hb : look T e = .v undef) : GW l (SD P ops n d o T H (.v undef) H) := ⟨⟨hd, hn, .none hg hj hb⟩⟩
end Go.Ax

/- The abstract layer, part 43: maps with keys of any one kind, and ranges over a map. -/

namespace Go.Ax
open Cel (c)
set_option linter.unusedSectionVars false
variable [Tabs]
open Go.ChangeMaps (setBlock)

class MKey (κ : Type) [DecidableEq κ] where
  kd : TypeDesc
  enc : κ → Value
  isKey : ∀ a, MapKept.IsKey kd (enc a)
  same : ∀ a b, Instr.sameNow kd (enc a) (enc b) = some (decide (a = b))
instance : MKey Int where
  kd := .int .i64
  enc n := .int .i64 n
  isKey _ := by simp [MapKept.IsKey]
  same a b := by
    simp only [Instr.sameNow, if_true, Option.some.injEq]
    by_cases h : a = b <;> simp [h]
instance : MKey ByteArray where
  kd := .string
  enc s := .string s
  isKey _ := by simp [MapKept.IsKey]
  same a b := by
    simp only [Instr.sameNow, Option.some.injEq]
    by_cases h : a = b
    · subst h; exact (beq_self_eq_true a.data).trans (decide_eq_true rfl).symm
    · exact (beq_eq_false_iff_ne.2 fun e => h (ByteArray.ext e) : (a.data == b.data) = false).trans (decide_eq_false h).symm

section
variable {κ : Type} [DecidableEq κ] [MKey κ]
open MKey (enc)

def kmap (es : List (κ × AV)) : List (Value × AV) := es.map fun p => (enc p.1, p.2)
def getK {α : Type} (es : List (κ × α)) (n : κ) : Option α :=
  match es with
  | [] => none
  | p :: r => if p.1 = n then some p.2 else getK r n
def putK {α : Type} (es : List (κ × α)) (n : κ) (v : α) : List (κ × α) :=
  match es with
  | [] => [(n, v)]
  | p :: r => if p.1 = n then (n, v) :: r else p :: putK r n v
def delK {α : Type} (es : List (κ × α)) (n : κ) : List (κ × α) :=
  match es with
  | [] => []
  | p :: r => if p.1 = n then r else p :: delK r n

theorem findNow_k {n : κ} : ∀ (es : List (κ × AV)) (ents : List MapEntry) (i : Nat), ents.length = es.length → (∀ (i : Nat) e en, es[i]? = some e → ents[i]? = some en → en.key = enc e.1) →
    (Instr.findNow (MKey.kd κ) (enc n) ents i = some none ∧ getK es n = none ∧ (∀ v, putK es n v = es ++ [(n, v)]) ∧ delK es n = es) ∨
    ∃ j en a, Instr.findNow (MKey.kd κ) (enc n) ents i = some (some (i + j, en.val)) ∧ ents[j]? = some en ∧ en.key = enc n ∧ es[j]? = some (n, a) ∧ getK es n = some a ∧ (∀ v, putK es n v = es.set j (n, v)) ∧ delK es n = es.eraseIdx j
  | [], [], i, _, _ => .inl ⟨rfl, rfl, fun _ => rfl, rfl⟩
  | [], e :: es, i, h, _ => by simp at h
  | p :: r, [], i, h, _ => by simp at h
  | p :: r, en :: ents, i, h, hk => by
    have h0 := hk 0 p en rfl rfl
    by_cases hp : p.1 = n
    · refine .inr ⟨0, en, p.2, ?_, rfl, by rw [h0, hp], by rw [← hp]; rfl, by simp [getK, hp], fun v => by simp [putK, hp], by simp [delK, hp]⟩
      simp only [Instr.findNow, h0, hp, MKey.same, decide_true, Nat.add_zero]
    · have hs : Instr.sameNow (MKey.kd κ) (enc n) en.key = some false := by
        rw [h0, MKey.same]
        simp [Ne.symm hp]
      rcases findNow_k (n := n) r ents (i + 1) (by simpa using h) (fun i e en' h1 h2 => hk (i + 1) e en' (by simpa using h1) (by simpa using h2)) with ⟨h1, h2, h3, h4⟩ | ⟨j, en', a, h1, h2, h3, h4, h5, h6, h7⟩
      · refine .inl ⟨?_, by simp [getK, hp, h2], fun v => by simp [putK, hp, h3], by simp [delK, hp, h4]⟩
        simp only [Instr.findNow, hs, h1]
      · refine .inr ⟨j + 1, en', a, ?_, by simpa using h2, h3, by simpa using h4, by simp [getK, hp, h5], fun v => by simp [putK, hp, h6], by simp [delK, hp, h7]⟩
        simp only [Instr.findNow, hs, h1]
        congr 3
        omega
theorem kmap_get {es : List (κ × AV)} {i : Nat} {e : κ × AV} (h : es[i]? = some e) : (kmap es)[i]? = some (enc e.1, e.2) := by simp [kmap, h]
variable {P : Program} {o : Oper} {T : Fr} {H : AHeap} {TT : Nat → TI} (hT : TOk P TT)
include hT

theorem AStepD.klookup {t kt et : TypeId} {x y : Operand} {l : Nat} (n : κ) {es : List (κ × AV)} {g : Option AV} (ho : o.op = .lookup t x y true) (hx : aev T x = .map l) (hy : aev T y = .v (enc n)) (hok : (TT t).ok = true) (hu : (TT t).und = .map kt et)
    (hokk : (TT kt).ok = true) (huk : (TT kt).und = MKey.kd κ) (hoke : (TT et).ok = true) (hH : H.get l = some (.map (kmap es))) (hg : getK es n = g) {z : AV} (hz : SubV (.v (TT et).zero) z) : AStepD P o T H (.tup [g.getD z, .v (.bool g.isSome)]) H := by
  subst hg
  refine .of_pure fun ρ I w a hc ht => ?_
  have hv := aev_eq ht hx
  have hyv := cv_v (aev_eq ht hy)
  generalize he : a.eval x = u at hv
  cases hv with
  | @map _ B hB =>
    obtain ⟨B', hB', _, ents, clock, h1, h2, h3, h4, h5⟩ := hc.obj l _ hH
    rw [hB] at hB'; cases hB'
    have hkey : MapKept.IsKey (MKey.kd κ) (enc n) := MKey.isKey n
    have hd : P.underlying kt = some (MKey.kd κ) := by rw [(hT kt hokk).und, huk]
    have hes : ∀ (i : Nat) e en, es[i]? = some e → ents.toList[i]? = some en → en.key = enc e.1 := fun i e en q1 q2 => (h3 i _ en (kmap_get q1) (by simpa using q2)).1
    rcases findNow_k (n := n) es ents.toList 0 (by simpa [kmap] using h2) hes with ⟨f1, f2, -, -⟩ | ⟨j, en, b, f1, f2, f3, f4, f5, -, -⟩
    · refine ⟨.tuple #[(TT et).zero, .bool false], ?_, ?_⟩
      · simp [execOp, ho, he, hyv, Instr.lookup, (hT t hok).run_und w, hu, MapKept.run_getObj_map h1, MapKept.run_checkKey hd hkey, MapKept.run_findKey hd f1, (hT et hoke).run_zero w, Result.andThen]
      · rw [f2]
        exact CV.tup (vs := [_, _]) rfl fun i a u ha hu => by
          match i with
          | 0 => simp at ha hu; subst ha; subst hu; exact hz _ _ _ (.v _)
          | 1 => simp at ha hu; subst ha; subst hu; exact .v _
          | i + 2 => simp at ha
    · refine ⟨.tuple #[en.val, .bool true], ?_, ?_⟩
      · simp [execOp, ho, he, hyv, Instr.lookup, (hT t hok).run_und w, hu, MapKept.run_getObj_map h1, MapKept.run_checkKey hd hkey, MapKept.run_findKey hd f1, Result.andThen]
      · rw [f5]
        have := (h3 j _ en (kmap_get f4) (by simpa using f2)).2
        exact CV.tup (vs := [_, _]) rfl fun i a u ha hu => by
          match i with
          | 0 => simp at ha hu; subst ha; subst hu; exact this
          | 1 => simp at ha hu; subst ha; subst hu; exact .v _
          | i + 2 => simp at ha
theorem AStepD.klookup1 {t kt et : TypeId} {x y : Operand} {l : Nat} (n : κ) {es : List (κ × AV)} {g : Option AV} (ho : o.op = .lookup t x y false) (hx : aev T x = .map l) (hy : aev T y = .v (enc n)) (hok : (TT t).ok = true) (hu : (TT t).und = .map kt et)
    (hokk : (TT kt).ok = true) (huk : (TT kt).und = MKey.kd κ) (hoke : (TT et).ok = true) (hH : H.get l = some (.map (kmap es))) (hg : getK es n = g) {z : AV} (hz : SubV (.v (TT et).zero) z) : AStepD P o T H (g.getD z) H := by
  subst hg
  refine .of_pure fun ρ I w a hc ht => ?_
  have hv := aev_eq ht hx
  have hyv := cv_v (aev_eq ht hy)
  generalize he : a.eval x = u at hv
  cases hv with
  | @map _ B hB =>
    obtain ⟨B', hB', _, ents, clock, h1, h2, h3, h4, h5⟩ := hc.obj l _ hH
    rw [hB] at hB'; cases hB'
    have hkey : MapKept.IsKey (MKey.kd κ) (enc n) := MKey.isKey n
    have hd : P.underlying kt = some (MKey.kd κ) := by rw [(hT kt hokk).und, huk]
    have hes : ∀ (i : Nat) e en, es[i]? = some e → ents.toList[i]? = some en → en.key = enc e.1 := fun i e en q1 q2 => (h3 i _ en (kmap_get q1) (by simpa using q2)).1
    rcases findNow_k (n := n) es ents.toList 0 (by simpa [kmap] using h2) hes with ⟨f1, f2, -, -⟩ | ⟨j, en, b, f1, f2, f3, f4, f5, -, -⟩
    · refine ⟨(TT et).zero, ?_, ?_⟩
      · simp [execOp, ho, he, hyv, Instr.lookup, (hT t hok).run_und w, hu, MapKept.run_getObj_map h1, MapKept.run_checkKey hd hkey, MapKept.run_findKey hd f1, (hT et hoke).run_zero w, Result.andThen]
      · rw [f2]; exact hz _ _ _ (.v _)
    · refine ⟨en.val, ?_, ?_⟩
      · simp [execOp, ho, he, hyv, Instr.lookup, (hT t hok).run_und w, hu, MapKept.run_getObj_map h1, MapKept.run_checkKey hd hkey, MapKept.run_findKey hd f1, Result.andThen]
      · rw [f5]
        exact (h3 j _ en (kmap_get f4) (by simpa using f2)).2
theorem AStepD.kmapUpdate {t kt et : TypeId} {x y z : Operand} {l : Nat} (n : κ) {es es' : List (κ × AV)} {v : AV} (ho : o.op = .mapUpdate t x y z) (hx : aev T x = .map l) (hy : aev T y = .v (enc n)) (hz : aev T z = v) (hok : (TT t).ok = true) (hu : (TT t).und = .map kt et)
    (hokk : (TT kt).ok = true) (huk : (TT kt).und = MKey.kd κ) (hH : H.get l = some (.map (kmap es))) (hes' : putK es n v = es') : AStepD P o T H .any (H.set l (.map (kmap es'))) := by
  subst hes'; subst hz
  refine AStep.of_skip fun ρ I w a hc ht => ?_
  have hv := aev_eq ht hx
  have hyv := cv_v (aev_eq ht hy)
  have hzv := aev_cv ht z
  generalize he : a.eval x = u at hv
  cases hv with
  | @map _ B hB =>
    obtain ⟨B', hB', _, ents, clock, h1, h2, h3, h4, h5⟩ := hc.obj l _ hH
    rw [hB] at hB'; cases hB'
    have hkey : MapKept.IsKey (MKey.kd κ) (enc n) := MKey.isKey n
    have hd : P.underlying kt = some (MKey.kd κ) := by rw [(hT kt hokk).und, huk]
    have hlt : B.b < w.heap.size := (Array.getElem?_eq_some_iff.1 h1).1
    have hes : ∀ (i : Nat) e en, es[i]? = some e → ents.toList[i]? = some en → en.key = enc e.1 := fun i e en q1 q2 => (h3 i _ en (kmap_get q1) (by simpa using q2)).1
    have hl2 : ents.size = es.length := by simpa [kmap] using h2
    rcases findNow_k (n := n) es ents.toList 0 (by simpa [kmap] using h2) hes with ⟨f1, f2, f3, -⟩ | ⟨j, en, b, f1, f2, f3, f4, f5, f6, -⟩
    · rw [f3]
      obtain ⟨hc', ev⟩ := hc.set (o' := .map (kmap (es ++ [(n, aev T z)]))) hH hB (w' := { w with heap := w.heap.setIfInBounds B.b (.map (ents.push ⟨enc n, a.eval z, clock⟩) (clock + 1)) }) (by simp) (fun q hq => by simp [Ne.symm hq])
        ⟨ents.push ⟨enc n, a.eval z, clock⟩, clock + 1, by simp [hlt], by simp [kmap, hl2], fun i e en q1 q2 => by
          by_cases hi : i < es.length
          · rw [Array.getElem?_push_lt (by omega)] at q2
            simp only [kmap, List.map_append] at q1
            rw [List.getElem?_append_left (by simpa using hi)] at q1
            exact h3 i e en q1 (by simpa [hl2, hi] using q2)
          · simp only [kmap, List.map_append] at q1
            rw [List.getElem?_append_right (by simp; omega)] at q1
            have h0 : i - (es.map fun p => ((enc p.1, p.2) : Value × AV)).length = 0 := by
              have := (List.getElem?_eq_some_iff.1 q1).1
              simp at this ⊢; omega
            rw [h0] at q1
            simp at q1 h0
            have : i = ents.size := by omega
            subst this
            simp at q2
            subst q1; subst q2
            exact ⟨rfl, hzv⟩, fun i en q => by
          by_cases hi : i < ents.size
          · rw [Array.getElem?_push_lt hi] at q
            have := h4 i en (by simpa [hi] using q)
            omega
          · have : i = ents.size := by have := (Array.getElem?_eq_some_iff.1 q).1; simp at this; omega
            subst this
            simp at q
            subst q
            simp, fun i j x y q1 q2 hxy => by
          have ci : i < ents.size ∨ i = ents.size := by have := (Array.getElem?_eq_some_iff.1 q1).1; simp at this; omega
          have cj : j < ents.size ∨ j = ents.size := by have := (Array.getElem?_eq_some_iff.1 q2).1; simp at this; omega
          rcases ci with ci | rfl <;> rcases cj with cj | rfl
          · rw [Array.getElem?_push_lt ci] at q1
            rw [Array.getElem?_push_lt cj] at q2
            exact h5 i j x y (by simpa [ci] using q1) (by simpa [cj] using q2) hxy
          · rw [Array.getElem?_push_lt ci] at q1
            simp at q2
            subst q2
            have := h4 i x (by simpa [ci] using q1)
            simp at hxy; omega
          · rw [Array.getElem?_push_lt cj] at q2
            simp at q1
            subst q1
            have := h4 j y (by simpa [cj] using q2)
            simp at hxy; omega
          · rfl⟩ rfl rfl rfl
      refine ⟨_, ρ, I, _, ?_, ⟨rfl, rfl⟩, hc', ev⟩
      simp [execOp, ho, he, hyv, Instr.mapUpdate, (hT t hok).run_und w, hu, MapKept.run_getObj_map h1, MapKept.run_checkKey hd hkey, MapKept.run_findKey hd f1, MapKept.run_setObj_map _ h1, Result.andThen]
    · rw [f6]
      have hj : ents[j]? = some en := by simpa using f2
      have hjl : j < ents.size := (Array.getElem?_eq_some_iff.1 hj).1
      have hmod : ∀ (i : Nat) x, (ents.modify j fun e => { e with key := enc n, val := a.eval z })[i]? = some x → ∃ y, ents[i]? = some y ∧ x.born = y.born ∧ (i ≠ j → x = y) ∧ (i = j → x.key = enc n ∧ x.val = a.eval z) := by
        intro i x q
        rw [Array.getElem?_modify] at q
        split at q
        · rename_i e
          subst e
          rw [hj] at q
          simp at q
          subst q
          exact ⟨en, hj, rfl, fun h => (h rfl).elim, fun _ => ⟨rfl, rfl⟩⟩
        · rename_i e
          exact ⟨x, q, rfl, fun _ => rfl, fun h => (e h.symm).elim⟩
      obtain ⟨hc', ev⟩ := hc.set (o' := .map (kmap (es.set j (n, aev T z)))) hH hB (w' := { w with heap := w.heap.setIfInBounds B.b (.map (ents.modify j fun e => { e with key := enc n, val := a.eval z }) clock) }) (by simp) (fun q hq => by simp [Ne.symm hq])
        ⟨ents.modify j fun e => { e with key := enc n, val := a.eval z }, clock, by simp [hlt], by simp [kmap, hl2], fun i e en' q1 q2 => by
          obtain ⟨y', hy', hb', hne, heq⟩ := hmod i en' q2
          by_cases hij : i = j
          · subst hij
            simp only [kmap, List.map_set] at q1
            rw [List.getElem?_set_self (by simp; omega)] at q1
            simp at q1
            subst q1
            exact ⟨(heq rfl).1, by rw [(heq rfl).2]; exact hzv⟩
          · simp only [kmap, List.map_set] at q1
            rw [List.getElem?_set_ne (Ne.symm hij)] at q1
            rw [hne hij]
            exact h3 i e y' q1 hy', fun i en' q => by
          obtain ⟨y', hy', hb', _⟩ := hmod i en' q
          rw [hb']
          exact h4 i y' hy', fun i i' x y q1 q2 hxy => by
          obtain ⟨x', hx', hb1, _⟩ := hmod i x q1
          obtain ⟨y', hy', hb2, _⟩ := hmod i' y q2
          exact h5 i i' x' y' hx' hy' (by rw [← hb1, ← hb2, hxy])⟩ rfl rfl rfl
      refine ⟨_, ρ, I, _, ?_, ⟨rfl, rfl⟩, hc', ev⟩
      have hst : (Instr.keyThatStays (enc n) (enc n)).run P w = .ok (enc n) w := MapKept.run_keyThatStays hkey
      simp [execOp, ho, he, hyv, Instr.mapUpdate, (hT t hok).run_und w, hu, MapKept.run_getObj_map h1, MapKept.run_checkKey hd hkey, MapKept.run_findKey hd f1, hj, f3, hst, MapKept.run_setObj_map _ h1, Result.andThen]

theorem AStepD.kdelete {t kt et ky : TypeId} {x y : Operand} {l : Nat} (n : κ) {es es' : List (κ × AV)} (ho : o.op = .call { callee := .builtin .delete, args := #[x, y], argTypes := #[t, ky] }) (hx : aev T x = .map l) (hy : aev T y = .v (enc n)) (hok : (TT t).ok = true) (hu : (TT t).und = .map kt et)
    (hokk : (TT kt).ok = true) (huk : (TT kt).und = MKey.kd κ) (hH : H.get l = some (.map (kmap es))) (hes' : delK es n = es') : AStepD P o T H .any (H.set l (.map (kmap es'))) := by
  subst hes'
  refine AStep.of_run fun ρ I w a hc ht => ?_
  have hv := aev_eq ht hx
  have hyv := cv_v (aev_eq ht hy)
  generalize he : a.eval x = u at hv
  cases hv with
  | @map _ B hB =>
    obtain ⟨B', hB', _, ents, clock, h1, h2, h3, h4, h5⟩ := hc.obj l _ hH
    rw [hB] at hB'; cases hB'
    have hkey : MapKept.IsKey (MKey.kd κ) (enc n) := MKey.isKey n
    have hd : P.underlying kt = some (MKey.kd κ) := by rw [(hT kt hokk).und, huk]
    have hlt : B.b < w.heap.size := (Array.getElem?_eq_some_iff.1 h1).1
    have hes : ∀ (i : Nat) e en, es[i]? = some e → ents.toList[i]? = some en → en.key = enc e.1 := fun i e en q1 q2 => (h3 i _ en (kmap_get q1) (by simpa using q2)).1
    have hl2 : ents.size = es.length := by simpa [kmap] using h2
    rcases findNow_k (n := n) es ents.toList 0 (by simpa [kmap] using h2) hes with ⟨f1, f2, -, f3⟩ | ⟨j, en, b, f1, f2, f3, f4, f5, -, f6⟩
    · rw [f3]
      obtain ⟨hc', ev⟩ := hc.set (o' := .map (kmap es)) hH hB (w' := { w with heap := w.heap.setIfInBounds B.b (.map ents clock) }) (by simp) (fun q hq => by simp [Ne.symm hq])
        ⟨ents, clock, by simp [hlt], h2, h3, h4, h5⟩ rfl rfl rfl
      refine ⟨.tuple #[], _, .any, ρ, I, _, run_builtin ho a w ?_, ⟨rfl, rfl⟩, .any _, hc', ev⟩
      rw [show (#[x, y] : Array Operand).map a.eval = #[a.eval x, a.eval y] from by simp, he, hyv]
      simp [builtin, Builtin.delete_, (hT t hok).run_und w, hu, MapKept.run_getObj_map h1, MapKept.run_checkKey hd hkey, MapKept.run_findKey hd f1, MapKept.run_setObj_map _ h1, Result.andThen]
    · rw [f6]
      have hj : ents[j]? = some en := by simpa using f2
      have hjl : j < ents.size := (Array.getElem?_eq_some_iff.1 hj).1
      have her : ∀ (i : Nat) x, (ents.eraseIdxIfInBounds j)[i]? = some x → ents[if i < j then i else i + 1]? = some x := by
        intro i x q
        have e1 : (ents.eraseIdxIfInBounds j).toList = ents.toList.eraseIdx j := by simp [Array.eraseIdxIfInBounds, hjl]
        rw [← Array.getElem?_toList, e1, List.getElem?_eraseIdx] at q
        split at q
        · rename_i h; rw [if_pos h]; simpa using q
        · rename_i h; rw [if_neg h]; simpa using q
      obtain ⟨hc', ev⟩ := hc.set (o' := .map (kmap (es.eraseIdx j))) hH hB (w' := { w with heap := w.heap.setIfInBounds B.b (.map (ents.eraseIdxIfInBounds j) clock) }) (by simp) (fun q hq => by simp [Ne.symm hq])
        ⟨ents.eraseIdxIfInBounds j, clock, by simp [hlt], by
          have e1 : (ents.eraseIdxIfInBounds j).size = ents.size - 1 := by simp [Array.eraseIdxIfInBounds, hjl]
          have : j < es.length := by omega
          rw [e1]
          simp [kmap, List.length_eraseIdx, this]
          omega, fun i e en' q1 q2 => by
          refine h3 (if i < j then i else i + 1) e en' ?_ (her i en' q2)
          simp only [kmap] at q1
          rw [← map_eraseIdxA] at q1
          rw [List.getElem?_eraseIdx] at q1
          simp only [kmap]
          split at q1
          · rename_i h; rw [if_pos h]; exact q1
          · rename_i h; rw [if_neg h]; exact q1, fun i en' q => h4 _ en' (her i en' q), fun i i' x y q1 q2 hxy => by
          have := h5 _ _ x y (her i x q1) (her i' y q2) hxy
          split at this <;> split at this <;> omega⟩ rfl rfl rfl
      refine ⟨.tuple #[], _, .any, ρ, I, _, run_builtin ho a w ?_, ⟨rfl, rfl⟩, .any _, hc', ev⟩
      rw [show (#[x, y] : Array Operand).map a.eval = #[a.eval x, a.eval y] from by simp, he, hyv]
      simp [builtin, Builtin.delete_, (hT t hok).run_und w, hu, MapKept.run_getObj_map h1, MapKept.run_checkKey hd hkey, MapKept.run_findKey hd f1, MapKept.run_setObj_map _ h1, Result.andThen]
end

/-! ### Ranges over a map -/
section
variable {P : Program} {o : Oper} {T : Fr} {H : AHeap} {TT : Nat → TI}

theorem AStep.range (hT : TOk P TT) {t kt et : TypeId} {x : Operand} {l : Nat} {es : List (Value × AV)} (ho : o.op = .range t x) (hx : aev T x = .map l) (hok : (TT t).ok = true) (hu : (TT t).und = .map kt et) (hH : H.get l = some (.map es)) :
    AStep P o T H fun y H' => ∃ st clock, st.length = es.length ∧ st.Nodup ∧ (∀ s ∈ st, s < clock) ∧ y = .ptr H.next 0 ∧ H' = (H.set l (.smap es st clock)).new (.iter l clock [] clock) := by
  refine AStep.of_run fun ρ I w a hc ht => ?_
  have hv := aev_eq ht hx
  generalize he : a.eval x = u at hv
  cases hv with
  | @map _ B hB =>
    obtain ⟨B', hB', _, ents, clock, h1, h2, h3, h4, h5⟩ := hc.obj l _ hH
    rw [hB] at hB'; cases hB'
    have hnd : (ents.toList.map (·.born)).Nodup := by
      rw [List.nodup_iff_pairwise_ne, List.pairwise_iff_getElem]
      intro i j hi hj hij he
      simp only [List.getElem_map, Array.getElem_toList] at he
      simp only [List.length_map, Array.length_toList] at hi hj
      have := h5 i j _ _ (Array.getElem?_eq_getElem hi) (Array.getElem?_eq_getElem hj) he
      omega
    have hlt : ∀ s ∈ ents.toList.map (·.born), s < clock := by
      intro s hs
      obtain ⟨en, hen, rfl⟩ := List.mem_map.1 hs
      obtain ⟨i, hi, rfl⟩ := List.getElem_of_mem hen
      simp only [Array.length_toList] at hi
      exact h4 i _ (by simp [hi])
    obtain ⟨hc1, ev1⟩ := hc.set (o' := .smap es (ents.toList.map (·.born)) clock) hH hB (w' := w) rfl (fun _ _ => rfl) ⟨ents, h1, h2, h3, rfl, hnd, hlt⟩ rfl rfl rfl
    obtain ⟨hc2, ev2⟩ := hc1.new (o := .iter l clock [] clock) (w' := w.alloc (.mapIter (some B.b) clock #[] clock)) 0 (by simp) (fun k hk => RowKit.Below.heap_alloc w _ k hk)
      ⟨B, by unfold Rho.new; rw [if_neg (by have := hc1.dom _ _ hB; omega)]; exact hB, heap_alloc_new w _⟩ rfl rfl rfl
    refine ⟨.pointer (some ⟨w.heap.size, 0, none⟩), _, .ptr H.next 0, _, _, _, ?_, ⟨_, _, by simp [h2], hnd, hlt, rfl, rfl⟩, .ptr (B := ⟨w.heap.size, 0⟩) (by simp [Rho.new, AHeap.set]), hc2, ev1.trans ev2⟩
    simp [execOp, ho, he, run_range_map w t kt et B.b ents clock (by rw [(hT t hok).und, hu]) h1, Result.andThen]

theorem AStep.next {x : Operand} {it l since last : Nat} {seen : List Nat} {es : List (Value × AV)} {st : List Nat} {clock : Nat} (ho : o.op = .next x false) (hx : aev T x = .ptr it 0) (hit : H.get it = some (.iter l since seen last))
    (hl : H.get l = some (.smap es st clock)) (hs : ∀ s ∈ st, s < since) (hsl : since ≤ last) :
    AStep P o T H fun y H' => ((∀ s ∈ st, s ∈ seen) ∧ y = .tup [.v (.bool false)] ∧ H' = H) ∨
      ∃ (i : Nat) (e : Value × AV) (s : Nat), es[i]? = some e ∧ st[i]? = some s ∧ s ∉ seen ∧ y = .tup [.v (.bool true), .v e.1, e.2] ∧ H' = H.set it (.iter l since (seen ++ [s]) clock) := by
  refine AStep.of_run fun ρ I w a hc ht => ?_
  have hv := aev_eq ht hx
  generalize he : a.eval x = u at hv
  cases hv with
  | @ptr _ _ B hB =>
    obtain ⟨B', hB', _, BL, hBL, h1⟩ := hc.obj it _ hit
    rw [hB] at hB'; cases hB'
    obtain ⟨BL', hBL', _, ents, g1, g2, g3, g4, g5, g6⟩ := hc.obj l _ hl
    rw [hBL] at hBL'; cases hBL'
    have hold : ∀ x ∈ ents.toList, x.born < since := fun x hx => hs _ (by rw [← g4]; exact List.mem_map_of_mem hx)
    rcases run_next_at (P := P) w o.type B.b BL.b since last seen.toArray ents clock h1 g1 hold hsl with ⟨h0, hrun⟩ | ⟨en, hen, w1, hw1, hrun⟩
    · refine ⟨.tuple #[.bool false], w, _, ρ, I, H, by simp [execOp, ho, he, hrun, Result.andThen], .inl ⟨?_, rfl, rfl⟩, CV.tup (vs := [_]) rfl fun i a u ha hu => by
        match i with
        | 0 => simp at ha hu; subst ha; subst hu; exact .v _
        | i + 1 => simp at ha, hc, .refl ρ I w H⟩
      intro s hs'
      rw [← g4] at hs'
      obtain ⟨en, hen, rfl⟩ := List.mem_map.1 hs'
      by_cases hq : en.born ∈ seen
      · exact hq
      · exfalso
        have : en ∈ (leftOf ents seen.toArray).toList := by
          unfold leftOf
          simp only [Array.toList_filter, List.mem_filter]
          exact ⟨hen, by simpa using hq⟩
        have hz : (leftOf ents seen.toArray).toList = [] := by
          have := Array.eq_empty_of_size_eq_zero h0
          rw [this]
        rw [hz] at this
        cases this
    · unfold leftOf at hen
      simp only [Array.toList_filter, List.mem_filter] at hen
      obtain ⟨hm, hns⟩ := hen
      obtain ⟨i, hi, rfl⟩ := List.getElem_of_mem hm
      have hi' : i < ents.size := by simpa using hi
      have hie : i < es.length := by omega
      have hkv := g3 i es[i] ents[i] (by simp [hie]) (by simp [hi'])
      have hns' : ents[i].born ∉ seen := by simpa using hns
      have hh : w1.heap = w.heap := by rcases hw1 with rfl | rfl <;> rfl
      obtain ⟨hc', ev⟩ := hc.set (o' := .iter l since (seen ++ [ents[i].born]) clock) hit hB (w' := setBlock w1 B.b (.mapIter (some BL.b) since (seen.toArray.push ents[i].born) clock)) (by simp [setBlock, hh]) (fun q hq => by simp [setBlock, hh, Ne.symm hq])
        ⟨BL, hBL, by
          have : B.b < w.heap.size := (Array.getElem?_eq_some_iff.1 h1).1
          simp [setBlock, hh, this]⟩ (by rcases hw1 with rfl | rfl <;> rfl) (by rcases hw1 with rfl | rfl <;> rfl) (by rcases hw1 with rfl | rfl <;> rfl)
      refine ⟨.tuple #[.bool true, ents[i].key, ents[i].val], _, _, ρ, I, _, by simp [execOp, ho, he, hrun, Result.andThen], .inr ⟨i, es[i], ents[i].born, by simp [hie], by rw [← g4]; simp [hi'], hns', rfl, rfl⟩, ?_, hc', ev⟩
      exact CV.tup (vs := [_, _, _]) rfl fun k a u ha hu => by
        match k with
        | 0 => simp at ha hu; subst ha; subst hu; exact .v _
        | 1 => simp at ha hu; subst ha; subst hu; rw [hkv.1]; exact .v _
        | 2 => simp at ha hu; subst ha; subst hu; exact hkv.2
        | k + 3 => simp at ha

theorem AStepD.entry {x : Operand} {it l since : Nat} {seen : List Nat} {es : List (Value × AV)} {st : List Nat} {clock i s : Nat} {e : Value × AV} (ho : o.op = .entry x) (hx : aev T x = .ptr it 0) (hit : H.get it = some (.iter l since (seen ++ [s]) clock))
    (hl : H.get l = some (.smap es st clock)) (hi : es[i]? = some e) (hs : st[i]? = some s) : AStepD P o T H (.tup [.v e.1, e.2]) H := by
  refine .of_pure fun ρ I w a hc ht => ?_
  have hv := aev_eq ht hx
  generalize he : a.eval x = u at hv
  cases hv with
  | @ptr _ _ B hB =>
    obtain ⟨B', hB', _, BL, hBL, h1⟩ := hc.obj it _ hit
    rw [hB] at hB'; cases hB'
    obtain ⟨BL', hBL', _, ents, g1, g2, g3, g4, g5, g6⟩ := hc.obj l _ hl
    rw [hBL] at hBL'; cases hBL'
    have hie : i < es.length := (List.getElem?_eq_some_iff.1 hi).1
    have hi' : i < ents.size := by omega
    have hsb : s = ents[i].born := by
      rw [← g4] at hs
      simp [hi'] at hs
      exact hs.symm
    have hkv := g3 i e ents[i] hi (by simp [hi'])
    have h1' : w.heap[B.b]? = some (.mapIter (some BL.b) since (seen.toArray.push ents[i].born) clock) := by
      rw [h1, hsb]; simp
    refine ⟨.tuple #[ents[i].key, ents[i].val], by simp [execOp, ho, he, run_entry_at (P := P) w B.b BL.b since seen.toArray ents clock ents[i] h1' g1 (by simp) (by rw [g4]; exact g5), Result.andThen], ?_⟩
    exact CV.tup (vs := [_, _]) rfl fun k a u ha hu => by
      match k with
      | 0 => simp at ha hu; subst ha; subst hu; rw [hkv.1]; exact .v _
      | 1 => simp at ha hu; subst ha; subst hu; exact hkv.2
      | k + 2 => simp at ha

theorem AW.unstamp {md : Md} {c : Code} {Q : APost} {n l clock : Nat} {es : List (Value × AV)} {st : List Nat} (hl : H.get l = some (.smap es st clock)) (h : AW md P c Q T (H.set l (.map es)) n) : AW md P c Q T H n := by
  intro ρ I w a hc ht hn hd
  obtain ⟨B, hB, _, ents, g1, g2, g3, g4, g5, g6⟩ := hc.obj l _ hl
  have hb : ∀ (i : Nat) en, ents[i]? = some en → st[i]? = some en.born := fun i en hen => by rw [← g4]; simp [hen]
  obtain ⟨hc', ev⟩ := hc.set (o' := .map es) hl hB (w' := w) rfl (fun _ _ => rfl) ⟨ents, clock, g1, g2, g3, fun i en hen => g6 _ (List.mem_of_getElem? (hb i en hen)), fun i j x y hx hy hxy => by
    have e1 := hb i x hx
    have e2 := hb j y hy
    rw [hxy] at e1
    have hi := (List.getElem?_eq_some_iff.1 e1).1
    exact (List.getElem?_inj hi g5).1 (e1.trans e2.symm)⟩ rfl rfl rfl
  exact wpIn_mono (h ρ I w a hc' ht hn (hd.ev ev)) fun _ _ _ f => f.of_ev ev

structure Rng (H : AHeap) (l it : Nat) (es : List (Value × AV)) (done : List Nat) : Prop where
  ex : ∃ (st : List Nat) (clock : Nat), H.get it = some (.iter l clock (done.map fun i => st.getD i 0) clock) ∧ H.get l = some (.smap es st clock) ∧ st.length = es.length ∧ st.Nodup ∧ ∀ s ∈ st, s < clock
  lt : ∀ i ∈ done, i < es.length
  nd : done.Nodup
theorem Rng.keep {H' : AHeap} {l it : Nat} {es : List (Value × AV)} {done : List Nat} (h : Rng H l it es done) (h1 : H'.get it = H.get it) (h2 : H'.get l = H.get l) : Rng H' l it es done := by
  obtain ⟨⟨st, clock, q1, q2, q3⟩, h4, h5⟩ := h
  exact ⟨⟨st, clock, h1.trans q1, h2.trans q2, q3⟩, h4, h5⟩
theorem Rng.all {l it : Nat} {es : List (Value × AV)} {done : List Nat} (h : Rng H l it es done) (ha : ∀ i, i < es.length → i ∈ done) : done.Perm (List.range es.length) :=
  (List.perm_ext_iff_of_nodup h.nd List.nodup_range).2 fun i => ⟨fun hi => List.mem_range.2 (h.lt i hi), fun hi => ha i (List.mem_range.1 hi)⟩

theorem AStep.rng (hT : TOk P TT) {t kt et : TypeId} {x : Operand} {l : Nat} {es : List (Value × AV)} (ho : o.op = .range t x) (hx : aev T x = .map l) (hok : (TT t).ok = true) (hu : (TT t).und = .map kt et) (hH : H.get l = some (.map es)) (hl : l < H.next) :
    AStep P o T H fun y H' => y = .ptr H.next 0 ∧ Rng H' l H.next es [] ∧ (∀ q, q < H.next → q ≠ l → H'.get q = H.get q) ∧ H'.next = H.next + 1 := by
  refine (AStep.range hT ho hx hok hu hH).mono ?_
  rintro y H' ⟨st, clock, h1, h2, h3, rfl, rfl⟩
  refine ⟨rfl, ⟨⟨st, clock, AHeap.get_new_same _ _, ?_, h1, h2, h3⟩, by simp, .nil⟩, fun q hq hne => ?_, rfl⟩
  · rw [AHeap.get_new_ne _ _ (by simp only [AHeap.next_set]; omega), AHeap.get_set_same]
  · rw [AHeap.get_new_ne _ _ (by simp only [AHeap.next_set]; omega), AHeap.get_set_ne _ _ hne]

theorem AStep.nxt {x : Operand} {it l : Nat} {es : List (Value × AV)} {done : List Nat} (ho : o.op = .next x false) (hx : aev T x = .ptr it 0) (h : Rng H l it es done) (hne : it ≠ l) :
    AStep P o T H fun y H' => ((∀ i, i < es.length → i ∈ done) ∧ y = .tup [.v (.bool false)] ∧ H' = H) ∨
      ∃ (i : Nat) (e : Value × AV), es[i]? = some e ∧ i ∉ done ∧ done.length < es.length ∧ y = .tup [.v (.bool true), .v e.1, e.2] ∧ Rng H' l it es (done ++ [i]) ∧ (∀ q, q ≠ it → H'.get q = H.get q) ∧ H'.next = H.next := by
  obtain ⟨⟨st, clock, q1, q2, q3, q4, q5⟩, h4, h5⟩ := h
  have hgd : ∀ i, i < es.length → st[i]? = some (st.getD i 0) := fun i hi => by rw [List.getD_eq_getElem?_getD, List.getElem?_eq_getElem (by omega), Option.getD_some]
  refine (AStep.next ho hx q1 q2 q5 (Nat.le_refl _)).mono ?_
  rintro y H' (⟨r1, r2, r3⟩ | ⟨i, e, s, r1, r2, r3, r4, r5⟩)
  · refine .inl ⟨fun i hi => ?_, r2, r3⟩
    have hm := r1 _ (List.mem_of_getElem? (hgd i hi))
    obtain ⟨j, hj, he⟩ := List.mem_map.1 hm
    have e1 := hgd j (h4 j hj)
    rw [he, ← hgd i hi] at e1
    rw [← (List.getElem?_inj (by have := h4 j hj; omega) q4).1 e1]
    exact hj
  · have hi : i < es.length := (List.getElem?_eq_some_iff.1 r1).1
    have hs : st.getD i 0 = s := by have := hgd i hi; rw [r2] at this; exact (Option.some.inj this).symm
    have hni : i ∉ done := fun hd => r3 (List.mem_map.2 ⟨i, hd, hs⟩)
    have hnd : (done ++ [i]).Nodup := List.nodup_append.2 ⟨h5, by simp, by simp; intro a ha e; exact hni (e ▸ ha)⟩
    have hlt : ∀ j ∈ done ++ [i], j < es.length := by
      intro j hj
      rcases List.mem_append.1 hj with hj | hj
      · exact h4 j hj
      · simp at hj; rw [hj]; exact hi
    have hlen : (done ++ [i]).length ≤ (List.range es.length).length := List.Nodup.length_le_of_subset hnd fun j hj => List.mem_range.2 (hlt j hj)
    refine .inr ⟨i, e, r1, hni, by simp at hlen; omega, r4, ⟨⟨st, clock, ?_, ?_, q3, q4, q5⟩, hlt, hnd⟩, fun q hq => ?_, ?_⟩
    · rw [r5, AHeap.get_set_same, List.map_append, List.map_cons, List.map_nil, hs]
    · rw [r5, AHeap.get_set_ne _ _ hne.symm]; exact q2
    · rw [r5, AHeap.get_set_ne _ _ hq]
    · rw [r5]; rfl
theorem AStepD.ent {x : Operand} {it l i : Nat} {es : List (Value × AV)} {done : List Nat} {e : Value × AV} (ho : o.op = .entry x) (hx : aev T x = .ptr it 0) (h : Rng H l it es (done ++ [i])) (hi : es[i]? = some e) : AStepD P o T H (.tup [.v e.1, e.2]) H := by
  obtain ⟨⟨st, clock, q1, q2, q3, q4, q5⟩, h4, h5⟩ := h
  rw [List.map_append, List.map_cons, List.map_nil] at q1
  have hil : i < es.length := (List.getElem?_eq_some_iff.1 hi).1
  exact AStepD.entry ho hx q1 q2 hi (by rw [List.getD_eq_getElem?_getD, List.getElem?_eq_getElem (by omega), Option.getD_some])
theorem AW.rngEnd {md : Md} {c : Code} {Q : APost} {n l it : Nat} {es : List (Value × AV)} {done : List Nat} (hr : Rng H l it es done) (h : AW md P c Q T (H.set l (.map es)) n) : AW md P c Q T H n := by
  obtain ⟨⟨st, clock, q1, q2, q3, q4, q5⟩, h4, h5⟩ := hr
  exact AW.unstamp q2 h
end
end Go.Ax

/- The abstract layer, part 44: ranges over a string of small signs, maps of plain things, what a call may change. -/

namespace Go.Ax
open Cel (c)
set_option linter.unusedSectionVars false
variable [Tabs]

section
variable {P : Program} {o : Oper} {T : Fr} {H : AHeap} {TT : Nat → TI}
theorem AStepD.srange (hT : TOk P TT) {t : TypeId} {x : Operand} {s : ByteArray} (ho : o.op = .range t x) (hx : aev T x = .v (.string s)) (hok : (TT t).ok = true) (hu : (TT t).und = .string) :
    AStepD P o T H (.ptr H.next 0) (H.new (.obj (.stringIter s 0))) := by
  refine AStep.of_run fun ρ I w a hc ht => ?_
  have hv := cv_v (aev_eq ht hx)
  obtain ⟨hc', ev⟩ := hc.new (o := .obj (.stringIter s 0)) (w' := w.alloc (.stringIter s 0)) 0 (by simp) (fun k hk => RowKit.Below.heap_alloc w _ k hk) (heap_alloc_new w _) rfl rfl rfl
  refine ⟨.pointer (some ⟨w.heap.size, 0, none⟩), _, _, _, _, _, ?_, ⟨rfl, rfl⟩, .ptr (B := ⟨w.heap.size, 0⟩) (by simp [Rho.new]), hc', ev⟩
  simp only [execOp, ho, hv, Sem.run_bind, run_range_string (P := P) w t s (by rw [(hT t hok).und, hu]), Result.andThen]
  rfl
theorem AStepD.snext {x : Operand} {it pos : Nat} {s : ByteArray} {b : UInt8} (ho : o.op = .next x true) (hx : aev T x = .ptr it 0) (hit : H.get it = some (.obj (.stringIter s pos))) (hb : s.data.toList[pos]? = some b) (h : b.toNat < 128) :
    AStepD P o T H (.tup [.v (.bool true), .v (.int .i64 (pos : Nat)), .v (.int .i32 (b.toNat : Nat))]) (H.set it (.obj (.stringIter s (pos + 1)))) := by
  refine AStep.of_run fun ρ I w a hc ht => ?_
  have hv := aev_eq ht hx
  generalize he : a.eval x = u at hv
  cases hv with
  | @ptr _ _ B hB =>
    obtain ⟨B', hB', _, h1⟩ := hc.obj it _ hit
    rw [hB] at hB'; cases hB'
    have hlt : B.b < w.heap.size := (Array.getElem?_eq_some_iff.1 h1).1
    obtain ⟨hc', ev⟩ := hc.set (o' := .obj (.stringIter s (pos + 1))) hit hB (w' := { w with heap := w.heap.setIfInBounds B.b (.stringIter s (pos + 1)) }) (by simp) (fun q hq => by simp [Ne.symm hq]) (by simp [ObjAt, hlt]) rfl rfl rfl
    have h1 : w.heap[B.b]? = some (.stringIter s pos) := h1
    have hps : pos < s.size := by
      have := (List.getElem?_eq_some_iff.1 hb).1
      rw [Array.length_toList] at this; exact this
    have hg : s.get! pos = b := by
      have := (List.getElem?_eq_some_iff.1 hb).2
      have h2 : pos < s.data.size := hps
      rw [show s.get! pos = s.data[pos]! from rfl, getElem!_pos s.data pos h2]
      simpa using this
    have hd : Utf8.decode s pos = (b.toNat, 1) := by
      simp only [Utf8.decode, Nat.add_zero, hg]
      rw [if_pos (by omega)]
    refine ⟨.tuple #[.bool true, .int .i64 (pos : Nat), .int .i32 (b.toNat : Nat)], _, _, ρ, I, _, ?_, ⟨rfl, rfl⟩, CV.tup (vs := [_, _, _]) rfl fun k a u ha hu => ?_, hc', ev⟩
    · simp [execOp, ho, he, Instr.next, getObj, setObj, Sem.run, h1, hps, hd, Result.andThen, goInt]
    · match k with
      | 0 => simp at ha hu; subst ha; subst hu; exact .v _
      | 1 => simp at ha hu; subst ha; subst hu; exact .v _
      | 2 => simp at ha hu; subst ha; subst hu; exact .v _
      | k + 3 => simp at ha
theorem AStepD.snext_end {x : Operand} {it pos : Nat} {s : ByteArray} (ho : o.op = .next x true) (hx : aev T x = .ptr it 0) (hit : H.get it = some (.obj (.stringIter s pos))) (h : s.size ≤ pos) : AStepD P o T H (.tup [.v (.bool false)]) H := by
  refine .of_pure fun ρ I w a hc ht => ?_
  have hv := aev_eq ht hx
  generalize he : a.eval x = u at hv
  cases hv with
  | @ptr _ _ B hB =>
    obtain ⟨B', hB', _, h1⟩ := hc.obj it _ hit
    rw [hB] at hB'; cases hB'
    have h1 : w.heap[B.b]? = some (.stringIter s pos) := h1
    refine ⟨.tuple #[.bool false], ?_, CV.tup (vs := [_]) rfl fun k a u ha hu => ?_⟩
    · simp [execOp, ho, he, Instr.next, getObj, Sem.run, h1, show ¬ pos < s.size by omega, Result.andThen]
    · match k with
      | 0 => simp at ha hu; subst ha; subst hu; exact .v _
      | k + 1 => simp at ha
end

/-! ### Maps of plain things -/
section
variable {κ α : Type} [DecidableEq κ] (f : α → AV)
def tmap (es : List (κ × α)) : List (κ × AV) := es.map fun p => (p.1, f p.2)
theorem getK_tmap (es : List (κ × α)) (n : κ) : getK (tmap f es) n = (getK es n).map f := by
  induction es with
  | nil => rfl
  | cons p r ih =>
    simp only [tmap, List.map_cons, getK] at ih ⊢
    by_cases h : p.1 = n
    · rw [if_pos h, if_pos h]; rfl
    · rw [if_neg h, if_neg h]; exact ih
theorem putK_tmap (es : List (κ × α)) (n : κ) (v : α) : putK (tmap f es) n (f v) = tmap f (putK es n v) := by
  induction es with
  | nil => rfl
  | cons p r ih =>
    simp only [tmap, List.map_cons, putK] at ih ⊢
    by_cases h : p.1 = n
    · rw [if_pos h, if_pos h]; rfl
    · rw [if_neg h, if_neg h, List.map_cons, ih]
theorem delK_tmap (es : List (κ × α)) (n : κ) : delK (tmap f es) n = tmap f (delK es n) := by
  induction es with
  | nil => rfl
  | cons p r ih =>
    simp only [tmap, List.map_cons, delK] at ih ⊢
    by_cases h : p.1 = n
    · rw [if_pos h, if_pos h]
    · rw [if_neg h, if_neg h, List.map_cons, ih]
end
section
variable {κ α : Type} [DecidableEq κ]
theorem getK_put_same (es : List (κ × α)) (n : κ) (v : α) : getK (putK es n v) n = some v := by
  induction es with
  | nil => simp [putK, getK]
  | cons p r ih =>
    by_cases h : p.1 = n
    · simp [putK, getK, h]
    · simp [putK, getK, h, ih]
theorem getK_put_ne (es : List (κ × α)) {n m : κ} (v : α) (hm : m ≠ n) : getK (putK es n v) m = getK es m := by
  induction es with
  | nil => simp [putK, getK, Ne.symm hm]
  | cons p r ih =>
    by_cases h : p.1 = n
    · simp [putK, getK, h, Ne.symm hm]
    · by_cases h2 : p.1 = m
      · simp [putK, getK, h, h2, hm]
      · simp [putK, getK, h, h2, ih]
def keysK (es : List (κ × α)) : List κ := es.map (·.1)
theorem keys_put (es : List (κ × α)) (n : κ) (v : α) : keysK (putK es n v) = if n ∈ keysK es then keysK es else keysK es ++ [n] := by
  induction es with
  | nil => simp [putK, keysK]
  | cons p r ih =>
    simp only [keysK, List.map_cons, putK] at ih ⊢
    by_cases h : p.1 = n
    · subst h; simp
    · rw [if_neg h, List.map_cons, ih]
      by_cases h2 : n ∈ r.map (·.1)
      · simp [h2, Ne.symm h]
      · simp [h2, Ne.symm h]
theorem put_nodup {es : List (κ × α)} (h : (keysK es).Nodup) (n : κ) (v : α) : (keysK (putK es n v)).Nodup := by
  rw [keys_put]
  split
  · exact h
  · rename_i hn
    exact List.nodup_append.2 ⟨h, by simp, by simp; intro a ha e; exact hn (e ▸ ha)⟩
theorem getK_some_mem {es : List (κ × α)} {n : κ} {v : α} (h : getK es n = some v) : (n, v) ∈ es := by
  induction es with
  | nil => simp [getK] at h
  | cons p r ih =>
    simp only [getK] at h
    split at h
    · rename_i e; cases h; subst e; exact List.mem_cons_self
    · exact List.mem_cons_of_mem _ (ih h)
theorem getK_of_mem {es : List (κ × α)} (hn : (keysK es).Nodup) {n : κ} {v : α} (h : (n, v) ∈ es) : getK es n = some v := by
  induction es with
  | nil => simp at h
  | cons p r ih =>
    simp only [keysK, List.map_cons, List.nodup_cons] at hn
    rcases List.mem_cons.1 h with rfl | h
    · simp [getK]
    · have : p.1 ≠ n := fun e => hn.1 (List.mem_map.2 ⟨_, h, e.symm⟩)
      simp only [getK, if_neg this]
      exact ih hn.2 h
theorem getK_none {es : List (κ × α)} {n : κ} : getK es n = none ↔ n ∉ keysK es := by
  induction es with
  | nil => simp [getK, keysK]
  | cons p r ih =>
    simp only [keysK, List.map_cons, List.mem_cons, getK, not_or] at ih ⊢
    by_cases h : p.1 = n
    · simp [h]
    · rw [if_neg h, ih]; exact ⟨fun q => ⟨fun e => h e.symm, q⟩, fun q => q.2⟩
theorem keys_del {es : List (κ × α)} (hn : (keysK es).Nodup) (n : κ) : keysK (delK es n) = (keysK es).erase n := by
  induction es with
  | nil => simp [delK, keysK]
  | cons p r ih =>
    simp only [keysK, List.map_cons, delK, List.nodup_cons] at ih hn ⊢
    by_cases h : p.1 = n
    · subst h; simp
    · rw [if_neg h, List.map_cons, ih hn.2, List.erase_cons_tail (by simpa using h)]
end

/-! ### What a call may change -/
structure Only (S : Nat → Prop) (H H' : AHeap) : Prop where
  nx : H.next ≤ H'.next
  gt : ∀ q, q < H.next → ¬ S q → H'.get q = H.get q
variable {S : Nat → Prop} {H H1 H2 : AHeap}
theorem Only.refl (S : Nat → Prop) (H : AHeap) : Only S H H := ⟨Nat.le_refl _, fun _ _ _ => rfl⟩
theorem Only.trans (a : Only S H H1) (b : Only S H1 H2) : Only S H H2 := ⟨Nat.le_trans a.nx b.nx, fun q h hs => (b.gt q (Nat.lt_of_lt_of_le h a.nx) hs).trans (a.gt q h hs)⟩
theorem Only.keep (a : Keep H H1) : Only S H H1 := ⟨a.1, fun q h _ => a.2 q h⟩
theorem Only.set (a : Only S H H1) {l : Nat} {o : AObj} (h : S l ∨ H.next ≤ l) : Only S H (H1.set l o) := ⟨a.nx, fun q hq hs => (AHeap.get_set_ne _ _ (fun e => by subst e; rcases h with h | h; exact hs h; omega)).trans (a.gt q hq hs)⟩
theorem Only.new (a : Only S H H1) {o : AObj} : Only S H (H1.new o) := ⟨Nat.le_trans a.nx (Nat.le_succ _), fun q hq hs => (AHeap.get_new_ne _ _ (by have := a.nx; omega)).trans (a.gt q hq hs)⟩
theorem Only.del (a : Only S H H1) {l : Nat} (h : S l ∨ H.next ≤ l) : Only S H (H1.del l) := ⟨a.nx, fun q hq hs => (AHeap.get_del_ne _ (fun e => by subst e; rcases h with h | h; exact hs h; omega)).trans (a.gt q hq hs)⟩
theorem Only.sub {S' : Nat → Prop} (a : Only S H H1) (h : ∀ q, q < H.next → S q → S' q) : Only S' H H1 := ⟨a.nx, fun q hq hs => a.gt q hq fun k => hs (h q hq k)⟩
theorem Only.back (a : Only S H H1) (h : ∀ q, q < H.next → S q → H1.get q = H.get q) : Keep H H1 := ⟨a.nx, fun q hq => (Classical.em (S q)).elim (h q hq) (a.gt q hq)⟩
end Go.Ax

/- The abstract layer, part 45: an iterator that hands on its values in an order that is left open, and makes one location of its own: the keys of a map; the statement 'for x := range f' over it. -/

namespace Go.Ax
open Cel (c)
set_option linter.unusedSectionVars false
variable [Tabs]
open Go
variable {md : Md}

def prL (pr : Nat → Prop) (L : Nat) : Nat → Prop := fun q => pr q ∨ q = L + 1
def ASeqG (P : Program) (gf : FuncId) (lb : List AV) (m : Nat) (x : Nat → AV) (pr : Nat → Prop) (H0 : AHeap) : Prop :=
  (∀ q, pr q → q < H0.next) ∧
  ∀ (L : Nat) (J : List Nat → AHeap → Prop) (H : AHeap), H.next = L + 1 → ¬ pr L → H0.next ≤ H.next → (∀ q, pr q → H.get q = H0.get q) →
    (∀ ds H1 H2, J ds H1 → Same (prL pr L) H1 H2 → J ds H2) →
    (∀ ds i H1, i < m → i ∉ ds → J ds H1 → H.next < H1.next → AYields P L (x i) H1 fun r H' => Held (prL pr L) H1 H' ∧ r = .v (.bool true) ∧ J (ds ++ [i]) H') →
    J [] H → ACalls P gf (.yld L :: lb) H fun _ H' => ∃ ds, ds.Perm (List.range m) ∧ J ds H' ∧ ∀ q, pr q → H'.get q = H0.get q
theorem ASeqG.later {P : Program} {gf : FuncId} {lb : List AV} {m : Nat} {x : Nat → AV} {pr : Nat → Prop} {H0 H1 : AHeap} (h : ASeqG P gf lb m x pr H0) (hn : H0.next ≤ H1.next) (hp : ∀ q, pr q → H1.get q = H0.get q) : ASeqG P gf lb m x pr H1 :=
  ⟨fun q hq => Nat.lt_of_lt_of_le (h.1 q hq) hn, fun L J H hL hpL hH hpr h1 h2 h3 => (h.2 L J H hL hpL (Nat.le_trans hn hH) (fun q hq => (hpr q hq).trans (hp q hq)) h1 h2 h3).mono fun _ H' ⟨ds, k1, k2, k3⟩ => ⟨ds, k1, k2, fun q hq => (k3 q hq).trans (hp q hq).symm⟩⟩

section
variable {P : Program} {n : Nat} {p : Tmp} {assign body : Code} {T : Fr} {H : AHeap} {m : Nat} {x : Nat → AV} {pr : Nat → Prop}

theorem yields_ofG {J : List Nat → AHeap → Prop} {rec : Loop} {L : Nat} (hpr : ∀ q, pr q → q < L) (hHL : H.next ≤ L)
    (hrec : rec.state = .ready ∧ rec.pending = none ∧ rec.params = #[p] ∧ rec.assign = assign ∧ rec.body = body) (hpn : p < rec.tmps.size) (hn : rec.tmps.size = n)
    (hJ : ∀ ds H1 H2, J ds H1 → Same (fun q => prL pr L q ∨ q = L) H1 H2 → J ds H2)
    (round : ∀ l ds i H1, i < m → i ∉ ds → J ds H1 → H.next + 1 < H1.next →
      AW { r := some l } P assign (AThen (fun T1 H2 => AW { r := some l } P body (RoundPost (fun q => prL pr L q ∨ q = L) H1 (J (ds ++ [i])) (fun _ _ => False)) T1 H2 n) (fun _ _ _ => False)) ((p, x i) :: T) H1 n)
    {ds : List Nat} {i : Nat} {A : AHeap} (hi : i < m) (hni : i ∉ ds) (hj : J ds A) (hL : A.get L = some (.lp rec (Fr.cs T))) (hA : L + 1 < A.next) :
    AYields P L (x i) A fun r H' => Held (prL pr L) A H' ∧ r = .v (.bool true) ∧ J (ds ++ [i]) H' ∧ H'.get L = some (.lp rec (Fr.cs T)) ∧ L < H'.next := by
  obtain ⟨hr1, hr2, hr3, rfl, rfl⟩ := hrec
  intro ρ I w B u hc hB hu
  obtain ⟨B', hB', hI, hheap, hcs⟩ := hc.obj L _ hL
  rw [hB] at hB'; cases hB'
  have hy := run_yield (P := P) (args := #[u]) hheap (by rw [hr3]; rfl)
  have hfold : (rec.params.zip #[u]).foldl (fun tmps (x : Tmp × Value) => tmps.setIfInBounds x.1 x.2) rec.tmps = rec.tmps.setIfInBounds p u := by rw [hr3]; simp
  refine ⟨rec.fn, _, rec.assign, rec.body, hy, roundIn_of_wpIn trivial ?_⟩
  show rec.assign.wpIn (Fence.wide.inRound B.b) 0 P _ { tmps := (rec.params.zip #[u]).foldl (fun tmps (x : Tmp × Value) => tmps.setIfInBounds x.1 x.2) rec.tmps, defers := [] } w
  rw [hfold]
  have hcd : Conc ρ I w (A.del L) := hc.sub (SubH.del A L)
  have hun : ¬ Owned ρ (A.del L) B.b := hc.unowned hL hB
  have hsame : Same (fun q => prL pr L q ∨ q = L) A (A.del L) := ⟨fun q _ hq => AHeap.get_del_ne _ (fun e => hq (.inr e)), Nat.le_refl _⟩
  have hbl : B.b < w.heap.size := (Array.getElem?_eq_some_iff.1 hheap).1
  have htv : TV ρ I T { tmps := rec.tmps, defers := [] } := TV.cs.2 hcs
  have r1 := round B.b ds i (A.del L) hi hni (hJ _ _ _ hj hsame) (by show H.next + 1 < A.next; omega) ρ I w { tmps := rec.tmps.setIfInBounds p u, defers := [] } hcd
    (htv.put (d := some p) (fun t ht => by cases ht; exact hpn) hu) (by simpa using hn) (.nil (Nat.zero_le _))
  refine wpIn_mono r1 ?_
  intro e a1 w3 ⟨T1, ρ3, I3, A3, q, hc3, ht3, hn3, hd3, ev3⟩
  cases e with
  | exit id => exact q.elim
  | goto l => exact q.elim
  | ret => exact q.elim
  | panic c => exact q.elim
  | outgrown => exact q.elim
  | normal =>
    have hb3 : w3.heap[B.b]? = some (.loop rec) := (ev3.blk _ hbl hun).trans hheap
    have hun3 := ev3.own _ hbl hun
    have hI3 : I3 B.b = none := hc3.no_imm hb3 (fun _ _ _ h => by cases h)
    have hl3 : B.b < w3.heap.size := (Array.getElem?_eq_some_iff.1 hb3).1
    refine ⟨_, run_beginRound hb3 hr1, ?_⟩
    have hw3 : (w3.putObj B.b (.loop { rec with state := .busy })).heap[B.b]? = some (.loop { rec with state := .busy }) := World.putObj_heap_same hl3
    refine wpIn_mono (q ρ3 I3 _ a1 (hc3.putObj _ hun3 hI3) ht3 hn3 (hd3.putObj fun x hx => by rw [hb3] at hx; cases hx)) ?_
    intro e a2 w4 ⟨T2, ρ4, I4, A4, ⟨hheld, hq⟩, hc4, ht4, hn4, hd4, ev4⟩
    have hl3' : B.b < (w3.putObj B.b (.loop { rec with state := .busy })).heap.size := by rw [World.putObj_size]; exact hl3
    have hb4 : w4.heap[B.b]? = some (.loop { rec with state := .busy }) := (ev4.blk _ hl3' hun3).trans hw3
    have hun4 := ev4.own _ hl3' hun3
    have hI4 : I4 B.b = none := hc4.no_imm hb4 (fun _ _ _ h => by cases h)
    have hl4 : B.b < w4.heap.size := (Array.getElem?_eq_some_iff.1 hb4).1
    have hB4 : ρ4 L = some B := ev4.rho _ _ (ev3.rho _ _ hB)
    have hcs4 : ∀ (i : Nat) x, (Fr.cs T)[i]? = some x → CV ρ4 I4 x (rec.tmps.getD i undef) := fun i x hx => ev4.cv (ev3.cv (hcs i x hx))
    have hnx : A.next ≤ A4.next := Nat.le_trans ev3.next ev4.next
    have hAL : A4.get L = none := by
      have := hheld.1 L (.inr rfl) (show L < A.next by omega)
      rw [this, AHeap.get_del_same]
    have fin : ∀ r' : Loop, r'.tmps = rec.tmps → Conc ρ4 I4 (w4.putObj B.b (.loop r')) (A4.set L (.lp r' (Fr.cs T))) ∧
        Ev ρ I w A ρ4 I4 (w4.putObj B.b (.loop r')) (A4.set L (.lp r' (Fr.cs T))) ∧ Held (prL pr L) A (A4.set L (.lp r' (Fr.cs T))) := by
      intro r' hr'
      refine ⟨hc4.own hB4 hun4 (fun k hk => World.putObj_heap_other hk) hI4 ⟨World.putObj_heap_same hl4, by rw [hr']; exact hcs4⟩, ?_, ?_⟩
      · refine ⟨fun l X h => ev4.rho _ _ (ev3.rho _ _ h), fun b x h => ev4.imm _ _ (ev3.imm _ _ h), ev4.os.trans ev3.os, ev4.tape.trans ev3.tape, ev4.output.trans ev3.output, ?_, ?_, ?_, hnx⟩
        · rw [World.putObj_size]
          have := ev4.size
          rw [World.putObj_size] at this
          exact Nat.le_trans ev3.size this
        · intro b hb ho
          have hne : b ≠ B.b := fun e => ho ⟨L, B, hB, e.symm, by simp [hL]⟩
          have hod : ¬ Owned ρ (A.del L) b := fun h => ho (h.sub (SubH.del A L))
          rw [World.putObj_heap_other hne]
          refine (ev4.blk b (by rw [World.putObj_size]; exact Nat.lt_of_lt_of_le hb ev3.size) (ev3.own b hb hod)).trans ?_
          rw [World.putObj_heap_other hne]
          exact ev3.blk b hb hod
        · intro b hb ho
          have hod : ¬ Owned ρ (A.del L) b := fun h => ho (h.sub (SubH.del A L))
          have ho4 := ev4.own b (by rw [World.putObj_size]; exact Nat.lt_of_lt_of_le hb ev3.size) (ev3.own b hb hod)
          rintro ⟨l', X, h1, h2, h3⟩
          by_cases e : l' = L
          · subst e; rw [hB4] at h1; cases h1
            exact ho ⟨l', B, hB, h2, by simp [hL]⟩
          · rw [AHeap.get_set_ne _ _ e] at h3
            exact ho4 ⟨l', X, h1, h2, h3⟩
      · refine ⟨fun q hq hlt => ?_, hnx⟩
        have hne : q ≠ L := hq.elim (fun h => Nat.ne_of_lt (hpr q h)) (fun h => by omega)
        rw [AHeap.get_set_ne _ _ hne]
        exact (hheld.1 q (.inl hq) hlt).trans (AHeap.get_del_ne _ hne)
    have hset : ∀ r' : Loop, Same (fun q => prL pr L q ∨ q = L) A4 (A4.set L (.lp r' (Fr.cs T))) := fun r' => ⟨fun q _ hq => AHeap.get_set_ne _ _ (fun e => hq (.inr e)), Nat.le_refl _⟩
    have hnN : L < A4.next := by omega
    cases e with
    | normal =>
      have hr : { rec with state := .ready, pending := none } = rec := by
        cases rec; simp_all
      obtain ⟨f1, f2, f3⟩ := fin { rec with state := .ready, pending := none } rfl
      refine ⟨_, _, run_endRound none hb4, _, .v (.bool true), ρ4, I4, _, rfl, ⟨f3, rfl, hJ _ _ _ hq (hset _), ?_, hnN⟩, .v _, f1, f2⟩
      rw [AHeap.get_set_same, hr]
    | ret => exact hq.elim
    | exit id => exact hq.elim
    | goto l => exact hq.elim
    | panic c => exact hq.elim
    | outgrown => exact hq.elim

theorem AW.rangeFuncG {base : Nat} {g : Operand} {Q : APost} {gf : FuncId} {lb : List AV} (hg : aev T g = .func (.func gf) lb) (he : Enters P gf) (hpn : p < n) (hs : ASeqG P gf lb m x pr H)
    (J : List Nat → AHeap → Prop) (hJ : ∀ ds H1 H2, J ds H1 → Same (fun q => prL pr H.next q ∨ q = H.next) H1 H2 → J ds H2) (h0 : J [] H)
    (round : ∀ l ds i H1, i < m → i ∉ ds → J ds H1 → H.next + 1 < H1.next →
      AW { r := some l } P assign (AThen (fun T1 H2 => AW { r := some l } P body (RoundPost (fun q => prL pr H.next q ∨ q = H.next) H1 (J (ds ++ [i])) (fun _ _ => False)) T1 H2 n) (fun _ _ _ => False)) ((p, x i) :: T) H1 n)
    (done : ∀ ds H1, ds.Perm (List.range m) → J ds H1 → H.next ≤ H1.next → (∀ q, pr q → H1.get q = H.get q) → Q .normal T H1) :
    AW { base := base } P (.rangeFunc g #[p] assign body) Q T H n := by
  intro ρ I w a hc ht hn hd
  have hv := aev_eq ht hg
  obtain ⟨vs, hvs, hl, hcv⟩ : ∃ vs : List Value, a.eval g = .func (.func gf) #[] vs.toArray ∧ vs.length = lb.length ∧ ∀ (i : Nat) a u, lb[i]? = some a → vs[i]? = some u → CV ρ I a u := by
    generalize a.eval g = u at hv
    cases hv with
    | func hl hv => exact ⟨_, rfl, hl, hv⟩
  refine wpIn_rangeFunc ?_
  intro fn _
  obtain ⟨W0, hW0⟩ : ∃ W0, w.alloc (.deferred (some [])) = W0 := ⟨_, rfl⟩
  have hs0 : W0.heap.size = w.heap.size + 1 := by rw [← hW0]; simp
  obtain ⟨rec, hrec⟩ : ∃ rec : Loop, { state := .ready, pending := none, fn, tmps := a.tmps, params := #[p], assign, body, defers := w.heap.size } = rec := ⟨_, rfl⟩
  have hrs : rec.state = .ready ∧ rec.pending = none ∧ rec.params = #[p] ∧ rec.assign = assign ∧ rec.body = body := by subst hrec; exact ⟨rfl, rfl, rfl, rfl, rfl⟩
  have hrt : rec.tmps = a.tmps := by subst hrec; rfl
  obtain ⟨W1, hW1⟩ : ∃ W1, W0.alloc (.loop rec) = W1 := ⟨_, rfl⟩
  have hc0 : Conc ρ I W0 H := by rw [← hW0]; exact hc.alloc_alien _
  have ev0 : Ev ρ I w H ρ I W0 H := by rw [← hW0]; exact .alloc_alien hc _
  have hext : ∀ l B, ρ l = some B → ρ.new H.next ⟨W0.heap.size, 0⟩ l = some B := fun l B h => by
    have := hc.dom l B h
    unfold Rho.new
    rw [if_neg (by omega)]; exact h
  obtain ⟨hc1, ev1⟩ := hc0.new (w' := W1) (o := .lp rec (Fr.cs T)) 0 (by rw [← hW1]; simp) (fun k hk => by rw [← hW1]; exact heap_alloc_old _ _ k hk)
    ⟨by rw [← hW1]; exact World.alloc_heap_new _ _, fun i x hx => by rw [hrt]; exact (TV.cs.1 ht i x hx).mono hext (fun _ _ h => h)⟩ (by rw [← hW1]; rfl) (by rw [← hW1]; rfl) (by rw [← hW1]; rfl)
  have evA := ev0.trans ev1
  generalize hρ1 : ρ.new H.next ⟨W0.heap.size, 0⟩ = ρ1 at hc1 ev1 evA hext
  have hBL : ρ1 H.next = some ⟨W0.heap.size, 0⟩ := by rw [← hρ1]; simp [Rho.new]
  have hD1 : W1.heap[w.heap.size]? = some (.deferred (some [])) := by
    rw [← hW1, heap_alloc_old _ _ _ (by omega), ← hW0]; exact World.alloc_heap_new _ _
  have hDun : ¬ Owned ρ1 (H.new (.lp rec (Fr.cs T))) w.heap.size := by
    rintro ⟨l, B, h1, h2, h3⟩
    by_cases e : l = H.next
    · subst e; rw [hBL] at h1; cases h1; simp only at h2; omega
    · rw [AHeap.get_new_ne _ _ e] at h3
      obtain ⟨o, ho⟩ := Option.isSome_iff_exists.1 h3
      obtain ⟨B', hB', _, hO⟩ := hc.obj l o ho
      have := hext _ _ hB'
      rw [h1] at this; cases this
      have := hO.lt
      omega
  refine ⟨W0.heap.size, [{ target := .collected w.heap.size, args := #[] }], W1, { target := .fn (.func gf) vs.toArray, args := #[.func (.yield W0.heap.size) #[] #[]] }, W1, gf,
    #[.func (.yield W0.heap.size) #[] #[]] ++ vs.toArray, W1, ?_, ?_, fun _ _ => trivial, ?_, fun hh => (by simp [Md.F, Fence.wide] at hh), ?_⟩
  · rw [← hW1, ← hrec, hs0, ← hW0]; exact run_enterLoop_outer _ _ _ _ _
  · simp only [resolve, hvs]
    simp [Deferred.ofValue, Sem.run_bind, Sem.run_pure, Result.andThen, Act.eval]
  · simp only [invoke]
    exact he _ W1
  · have hargs : CVs ρ1 I (.yld H.next :: lb) ((#[.func (.yield W0.heap.size) #[] #[]] ++ vs.toArray : Array Value).toList) := by
      have h1 : CV ρ1 I (.yld H.next) (.func (.yield W0.heap.size) #[] #[]) := .yld hBL
      have h2 : CVs ρ1 I lb vs := ⟨hl, fun i a u ha hu => (hcv i a u ha hu).mono hext (fun _ _ h => h)⟩
      simpa using CVs.cons h1 h2
    have hnp : ¬ pr H.next := fun h => by have := hs.1 _ h; omega
    have wk : ∀ A B, Same (prL pr H.next) A B → Same (fun q => prL pr H.next q ∨ q = H.next) A B := fun A B h => ⟨fun q hq hn => h.1 q hq (fun hp => hn (.inl hp)), h.2⟩
    have hnp2 : ¬ prL pr H.next H.next := fun h => h.elim hnp (fun h => by omega)
    have hcall := hs.2 H.next (fun ds Hh => J ds Hh ∧ Hh.get H.next = some (.lp rec (Fr.cs T)) ∧ H.next < Hh.next)
      (H.new (.lp rec (Fr.cs T))) rfl hnp (Nat.le_succ _) (fun q hq => AHeap.get_new_ne _ _ (by have := hs.1 _ hq; omega))
      (fun ds H1 H2 h hs' => ⟨hJ ds H1 H2 h.1 (wk _ _ hs'), (hs'.1 H.next h.2.2 hnp2).trans h.2.1, Nat.lt_of_lt_of_le h.2.2 hs'.2⟩)
      (fun ds i A hi hni hj hA => yields_ofG hs.1 (Nat.le_refl _) hrs (by rw [hrt, hn]; exact hpn) (by rw [hrt, hn]) hJ round hi hni hj.1 hj.2.1 hA)
      ⟨hJ [] H _ h0 ⟨fun q hq hp => AHeap.get_new_ne _ _ (fun e => hp (.inr e)), Nat.le_succ _⟩, AHeap.get_new_same _ _, Nat.lt_succ_self _⟩
    have hc2 := hcall ρ1 I W1 _ hc1 hargs
    refine callsIn_wide.2 (Calls.mono hc2 ?_)
    rintro e W2 ⟨v, r, ρ2, I2, H2, rfl, ⟨ds, hperm, hj, hback⟩, _, hcc, ev2⟩
    have hB2 : ρ2 H.next = some ⟨W0.heap.size, 0⟩ := ev2.rho _ _ hBL
    have hDlt : w.heap.size < W1.heap.size := (Array.getElem?_eq_some_iff.1 hD1).1
    have hD2 : W2.heap[w.heap.size]? = some (.deferred (some [])) := (ev2.blk _ hDlt hDun).trans hD1
    have hDun2 := ev2.own _ hDlt hDun
    have evAll := evA.trans ev2
    have fin : ∀ (r' : Loop) (jp : Option Code), H2.get H.next = some (.lp r' (Fr.cs T)) → r'.state ≠ .busy → r'.pending = jp →
        ∃ w4, (Instr.endLoop W0.heap.size).run P W2 = .ok jp w4 ∧ Conc ρ2 I2 w4 (H2.del H.next) ∧ Ev ρ I w H ρ2 I2 w4 (H2.del H.next) ∧ TV ρ2 I2 T a ∧
          DOK { base := base } ρ2 w4 (H2.del H.next) ([{ target := .collected w.heap.size, args := #[] }] ++ a.defers) := by
      intro r' jp hg2 hst hp
      obtain ⟨B', hB', hI', hO, _⟩ := hcc.obj _ _ hg2
      rw [hB2] at hB'; cases hB'
      have hun := hcc.unowned hg2 hB2
      refine ⟨_, by rw [← hp]; exact run_endLoop hO hst, (hcc.sub (SubH.del _ _)).putObj _ hun hI', (evAll.trans (Ev.sub (SubH.del _ _))).putObj _ (by show w.heap.size ≤ W0.heap.size; omega), ht.mono evAll.rho evAll.imm, ?_⟩
      refine ⟨by rw [World.putObj_size]; exact Nat.le_trans hd.1 evAll.size, List.nodup_cons.2 ⟨fun hm => ?_, hd.2.1⟩, fun d hdm => ?_⟩
      · obtain ⟨D, he, _, h2, _⟩ := hd.2.2 _ hm
        have : w.heap.size = D := by injection he with h; injection h
        have := (Array.getElem?_eq_some_iff.1 h2).1
        omega
      · rcases List.mem_cons.1 hdm with rfl | hdm
        · refine ⟨_, rfl, hd.1, (World.putObj_heap_other (by show w.heap.size ≠ W0.heap.size; omega)).trans hD2, fun h => hDun2 (h.sub (SubH.del _ _))⟩
        · obtain ⟨D, rfl, h1, h2, h3⟩ := hd.2.2 d hdm
          have hlt := (Array.getElem?_eq_some_iff.1 h2).1
          exact ⟨D, rfl, h1, (World.putObj_heap_other (by show D ≠ W0.heap.size; omega)).trans ((evAll.blk _ hlt h3).trans h2), fun h => evAll.own _ hlt h3 (h.sub (SubH.del _ _))⟩
    have hsame : Same (fun q => prL pr H.next q ∨ q = H.next) H2 (H2.del H.next) := ⟨fun q _ hq => AHeap.get_del_ne _ (fun e => hq (.inr e)), Nat.le_refl _⟩
    obtain ⟨hj1, hj2, hj3⟩ := hj
    obtain ⟨w4, f1, f2, f3, f4, f5⟩ := fin rec none hj2 (by rw [hrs.1]; simp) hrs.2.1
    exact ⟨none, w4, f1, T, ρ2, I2, _, done ds _ hperm (hJ _ _ _ hj1 hsame) (by show H.next ≤ H2.next; omega) (fun q hq => (AHeap.get_del_ne _ (by have := hs.1 _ hq; omega)).trans (hback q hq)), f2, f4, hn, f5, f3⟩
end
end Go.Ax

/- The abstract layer, part 46: the shelf's contracts over a row of plain values; a cut with a bound on its room. -/

namespace Go.Ax
open Cel (c)
set_option linter.unusedSectionVars false
variable [Tabs]
open Go
def encL {β : Type} (enc : β → Value) (l : List β) : List AV := (l.map enc).map .v
theorem putRow_enc {β : Type} [Inhabited β] {enc : β → Value} (w : World) (b : Nat) (zs : List β) : Sort.putRow enc w b 0 zs.toArray = Sort.putRow id w b 0 (zs.map enc).toArray := by
  simp only [Sort.putRow]
  congr 1
  funext cells
  simp only [Sort.putCells]
  congr 1
  funext i q
  simp only [List.size_toArray, List.length_map]
  by_cases h : i < zs.length
  · have h1 : i - 0 < zs.length := by omega
    simp [h, h1]
  · simp [h]
theorem ACalls.enc_row {P : Program} {f : FuncId} {H : AHeap} {D : Nat} {t : TypeId} {β : Type} [Inhabited β] {enc : β → Value} {zs zs' : List β} {r : AV} {Ret : Value → Nat → Nat → Prop} (hD : H.get D = some (.cells t (encL enc zs))) (hz : zs'.length = zs.length)
    (h : ∀ (w : World) (b cap : Nat), zs.length ≤ cap → cap ≤ maxLen → Sort.Holds enc w b 0 zs.toArray → b < w.heap.size →
      Calls P f #[.slice (some ⟨b, 0, none⟩) zs.length cap] w fun e w' => ∃ u n os, e = .returned u ∧ w' = Sort.grow (Sort.putRow enc (Sort.ahead w n) b 0 zs'.toArray) os ∧ Ret u b cap)
    (hr : ∀ ρ I B cap u, ρ D = some B → zs.length ≤ cap → cap ≤ maxLen → cap ≤ B.sz → Ret u B.b cap → CV ρ I r u) :
    ACalls P f [.sl D 0 zs.length 1] H (fun r' H' => r' = r ∧ H' = H.set D (.cells t (encL enc zs'))) := by
  intro ρ I w vs hc ha
  obtain ⟨u0, rfl⟩ : ∃ u0, vs = [u0] := by
    have := ha.1
    match vs, this with
    | [a], _ => exact ⟨a, rfl⟩
  have h0 := ha.2 0 _ u0 rfl rfl
  obtain ⟨B, q, hB, rfl, hq1, hq2, hq3⟩ : ∃ B q, ρ D = some B ∧ u0 = .slice (some ⟨B.b, 0, none⟩) zs.length q ∧ zs.length ≤ q ∧ q ≤ maxLen ∧ 0 + q * 1 ≤ B.sz := by
    cases h0 with | sl hB hl hm hs => exact ⟨_, _, hB, rfl, hl, hm, hs⟩
  obtain ⟨B', hB', _, arr, ⟨fz, g1, gz⟩, g2, g3, g4⟩ := hc.obj D _ hD
  rw [hB] at hB'; cases hB'
  have hfl : (encL enc zs).length = zs.length := by simp [encL]
  have hH : Sort.Holds enc w B.b 0 zs.toArray := by
    intro j hj
    have hjz : j < zs.length := by simpa using hj
    have hja : j < arr.size := by omega
    have hcell : (encL enc zs)[j]? = some (.v (enc zs[j])) := by
      rw [encL, List.getElem?_map, List.getElem?_map, List.getElem?_eq_getElem hjz]; rfl
    have hv := cv_v (g4 j _ arr[j] hcell (by simp [hja]))
    rw [Nat.zero_add]
    constructor
    · simp only [World.cell?, g1]
      simp [hja, hv, hjz]
    · simp only [World.frozen?, g1]
      rcases gz with rfl | ⟨gz, _⟩
      · simp
      · simp; omega
  refine Calls.mono (h w B.b q hq1 hq2 hH (Array.getElem?_eq_some_iff.1 g1).1) ?_
  rintro e w' ⟨u, n, os, rfl, rfl, hret⟩
  obtain ⟨c1, c2⟩ := hc.putRow (F := zs.map (enc)) (G := zs'.map (enc)) (by rw [hD, encL]) hB (by simp [hz]) n os
  rw [putRow_enc]
  refine ⟨_, r, ρ, I, _, rfl, ⟨rfl, rfl⟩, hr ρ I B q u hB hq1 hq2 (by omega) hret, ?_, ?_⟩
  · rw [encL]; exact c1
  · rw [encL]; exact c2
theorem AStepD.slice3_vec {P : Program} {o : Oper} {T : Fr} {H : AHeap} {TT : Nat → TI} (hT : TOk P TT) {t e : TypeId} {x hi mx : Operand} {n h : Nat} {cs : List AV} (ho : o.op = .slice t x none (some hi) (some mx)) (hx : aev T x = .vec n cs) (hok : (TT t).ok = true) (hoke : (TT e).ok = true) (hu : (TT t).und = .slice e)
    (hhi : boundE T (some hi) (n : Nat) = (h : Int)) (hmx : boundE T (some mx) (n : Nat) = (h : Int)) (h2 : h ≤ n) : AStepD P o T H (.vec h (cs.take (h * (TT e).size))) H := by
  refine .of_pure fun ρ I w a _ ht => ?_
  have hv := aev_eq ht hx
  generalize he : a.eval x = u at hv
  cases hv with
  | @vec0 p c =>
    have hh : h = 0 := by omega
    subst hh
    have e1 := run_bound (P := P) ht hmx c (Nat.zero_le _) .slice3Acap w
    have e2 := run_bound (P := P) ht hhi 0 (Nat.le_refl _) .slice3B w
    simp only [Option.map_some] at e1 e2
    refine ⟨.slice p 0 0, ?_, by simpa using CV.vec0⟩
    simp [execOp, ho, he, Instr.sliceAt, Instr.slice, Instr.sliceBounds, (hT t hok).run_und w, hu, e1, e2, (hT e hoke).run_size w]
  | @vec _ c _ b off arr vs hn hm hI hl hc hvv =>
    have e1 := run_bound (P := P) ht hmx c (by omega) .slice3Acap w
    have e2 := run_bound (P := P) ht hhi h (Nat.le_refl _) .slice3B w
    simp only [Option.map_some] at e1 e2
    refine ⟨.slice (some ⟨b, off, none⟩) h h, ?_, ?_⟩
    · rcases Nat.eq_zero_or_pos h with rfl | h0
      · simp [execOp, ho, he, Instr.sliceAt, Instr.slice, Instr.sliceBounds, (hT t hok).run_und w, hu, e1, e2, (hT e hoke).run_size w]
      · simp [execOp, ho, he, Instr.sliceAt, Instr.slice, Instr.sliceBounds, (hT t hok).run_und w, hu, e1, e2, (hT e hoke).run_size w, Nat.ne_of_gt h0, add_none]
    · refine .vec (vs := vs.take (h * (TT e).size)) (Nat.le_refl _) (by omega) hI (by simp [hl]) (fun i u hu => ?_) (fun i a u ha hu => ?_)
      · rw [List.getElem?_take] at hu
        split at hu
        · exact hc _ u hu
        · cases hu
      · rw [List.getElem?_take] at hu ha
        split at hu
        · rename_i hj; rw [if_pos hj] at ha
          exact hvv _ a u ha hu
        · cases hu
end Go.Ax

/- The abstract layer, part 47: a region that draws its order, in which the first two effects may come in either order. -/

namespace Go.Ax
open Cel (c)
set_option linter.unusedSectionVars false
variable [Tabs]
variable {md : Md}
section
variable {P : Program} {ops : Array Oper} {n : Nat} {T : Fr} {H : AHeap} {vs vs1 vs2 : List AV} {effs : List Nat} {hs hs1 hs2 : List AHeap}

def pairsB (ops : Array Oper) (n : Nat) : Bool := (List.range ops.size).all fun i => opB ops n i
theorem pairsB_spec (h : pairsB ops n = true) : FitsP ops n := (drawB_spec (effs := []) (by simp only [drawB, Bool.and_eq_true]; exact ⟨⟨h, rfl⟩, rfl⟩)).toFitsP

theorem Mid.done {Q : APost} {ρ0 : Rho} {I0 : Imm} {w0 : World} {H0 : AHeap} {listed : Array Bool} {k : Nat} {ρ : Rho} {I : Imm} {a : Act} {w : World} (m : Mid ops T vs effs hs listed k ρ I a w) (lt : ∀ e ∈ effs, e < ops.size) (hvs : vs.length = ops.size)
    (hQ : Q .normal (frameAt T ops.toList vs) (hs.getD effs.length AHeap.empty)) (hall : ∀ i, i < ops.size → LD listed i) (hn : a.tmps.size = n) (hd : DOK md ρ w (hs.getD k AHeap.empty) a.defers) (ev : Ev ρ0 I0 w0 H0 ρ I w (hs.getD k AHeap.empty)) :
    Fin md Q ρ0 I0 w0 H0 n .normal a w := by
  have hk : k = effs.length := by
    refine Nat.le_antisymm m.kle (Nat.le_of_not_lt fun h => ?_)
    have := (m.pre k effs[k] (by simp [h])).1 (hall _ (lt _ (List.getElem_mem h)))
    omega
  subst hk
  refine ⟨_, ρ, I, _, hQ, m.conc, fun s => ?_, hn, hd, ev⟩
  rcases look_frameAt T s ops.toList vs (by simp [hvs]) with ⟨h1, h2⟩ | ⟨q, oq, h1, h2, h3, h4⟩
  · rw [h2]; exact m.kept s fun i o _ ho => h1 i o (by simpa using ho)
  · rw [h4]
    have hoq : ops[q]? = some oq := by simpa using h1
    exact m.written s q oq (hall q (Array.getElem?_eq_some_iff.1 hoq).1) hoq h2 fun i' o' _ ho' hd' => Nat.le_of_not_lt fun hlt => h3 i' o' hlt (by simpa using ho') hd'

theorem Mid.turn {listed : Array Bool} {k : Nat} {ρ : Rho} {I : Imm} {a : Act} {w : World} {u v : Nat} {r : List Nat} (m : Mid ops T vs (u :: v :: r) hs listed k ρ I a w) (hc : chainB ops (v :: r) = true) {i : Nat} (hanc : ∀ j ∈ anc ops i, LD listed j) (hni : ¬ LD listed i)
    (h01 : i = v → 0 < k) : ∀ (j : Nat), (u :: v :: r)[j]? = some i → k = j := by
  intro j hj
  have hnot : ¬ j < k := fun h => hni ((m.pre j i hj).2 h)
  match j, hj, hnot with
  | 0, hj, hnot => omega
  | 1, hj, hnot =>
    simp at hj
    have := h01 hj.symm
    omega
  | q + 2, hj, hnot =>
    have hq : q + 1 < (u :: v :: r).length := by have := (List.getElem?_eq_some_iff.1 hj).1; omega
    have h1 : (v :: r)[q]? = some ((u :: v :: r)[q + 1]) := by rw [← List.getElem?_cons_succ (a := u), List.getElem?_eq_getElem hq]
    have h2 : (v :: r)[q + 1]? = some i := by rw [← List.getElem?_cons_succ (a := u)]; exact hj
    have := (m.pre (q + 1) _ (List.getElem?_eq_getElem hq)).1 (hanc _ (chainB_spec hc q _ _ h1 h2))
    omega

def earlyB (ops : Array Oper) (effs : List Nat) (e : Nat) : Bool := (List.range ops.size).all fun i => Nat.blt i e || effs.contains i || effs.any fun f => (anc ops i).contains f

theorem Mid.swap {listed : Array Bool} {ρ : Rho} {I : Imm} {a : Act} {w : World} {x y e : Nat} {r : List Nat} (m : Mid ops T vs1 (x :: y :: r) hs1 listed 0 ρ I a w) (F : FitsP ops n) (he : earlyB ops (x :: y :: r) e = true) (hv : vs1.take e = vs2.take e)
    (h0 : hs2.getD 0 AHeap.empty = hs1.getD 0 AHeap.empty) : Mid ops T vs2 (y :: x :: r) hs2 listed 0 ρ I a w := by
  have hno : ∀ f ∈ x :: y :: r, ¬ LD listed f := by
    intro f hf hl
    obtain ⟨j, hj⟩ := List.mem_iff_getElem?.1 hf
    have := (m.pre j f hj).1 hl
    omega
  refine ⟨m.size, m.closed, fun j f hf => ⟨fun hl => ?_, fun h => by omega⟩, Nat.zero_le _, by rw [h0]; exact m.conc, fun s i o hl ho hd hmax => ?_, m.kept⟩
  · refine absurd hl (hno f ?_)
    have := List.mem_of_getElem? hf
    simp only [List.mem_cons] at this ⊢
    rcases this with h | h | h
    · exact .inr (.inl h)
    · exact .inl h
    · exact .inr (.inr h)
  · have hil := (Array.getElem?_eq_some_iff.1 ho).1
    simp only [earlyB, List.all_eq_true, List.mem_range] at he
    have := he i hil
    simp only [Bool.or_eq_true, List.any_eq_true, List.contains_iff_mem] at this
    have hie : i < e := by
      rcases this with (h | h) | ⟨f, hf, h⟩
      · exact Eq.mp Nat.blt_eq h
      · exact (hno i h hl).elim
      · exact (hno f hf (m.up F.fw i o ho (m.closed i o hl ho) f h)).elim
    have hg : vs2.getD i .any = vs1.getD i .any := by
      rw [List.getD_eq_getElem?_getD, List.getD_eq_getElem?_getD]
      have := congrArg (·[i]?) hv
      simp only [List.getElem?_take, hie, if_true] at this
      rw [this]
    rw [hg]
    exact m.written s i o hl ho hd hmax

theorem nodup_at {l : List Nat} (h : l.Nodup) (j j' : Nat) (e : Nat) (h1 : l[j]? = some e) (h2 : l[j']? = some e) : j = j' := (List.getElem?_inj (List.getElem?_eq_some_iff.1 h1).1 h).1 (h1.trans h2.symm)

theorem Mid.any2 {x y e : Nat} {r : List Nat} (F : FitsP ops n) (hc1 : chainB ops (y :: r) = true) (hc2 : chainB ops (x :: r) = true) (nd : (x :: y :: r).Nodup) (lt : ∀ f ∈ x :: y :: r, f < ops.size) (N1 : Need P ops n T vs1 (x :: y :: r) hs1) (N2 : Need P ops n T vs2 (y :: x :: r) hs2)
    (hv1 : vs1.length = ops.size) (hv2 : vs2.length = ops.size) (he : earlyB ops (x :: y :: r) e = true) (hv : vs1.take e = vs2.take e) (h0 : hs2.getD 0 AHeap.empty = hs1.getD 0 AHeap.empty) {Q : APost} {ρ0 : Rho} {I0 : Imm} {w0 : World} {H0 : AHeap}
    (hQ1 : Q .normal (frameAt T ops.toList vs1) (hs1.getD (x :: y :: r).length AHeap.empty)) (hQ2 : Q .normal (frameAt T ops.toList vs2) (hs2.getD (y :: x :: r).length AHeap.empty)) :
    ∀ (fuel : Nat) (listed : Array Bool) (a : Act) (w : World), ((∃ k ρ I, Mid ops T vs1 (x :: y :: r) hs1 listed k ρ I a w ∧ DOK md ρ w (hs1.getD k AHeap.empty) a.defers ∧ Ev ρ0 I0 w0 H0 ρ I w (hs1.getD k AHeap.empty)) ∨
        ∃ k ρ I, LD listed y ∧ Mid ops T vs2 (y :: x :: r) hs2 listed k ρ I a w ∧ DOK md ρ w (hs2.getD k AHeap.empty) a.defers ∧ Ev ρ0 I0 w0 H0 ρ I w (hs2.getD k AHeap.empty)) →
      ((List.range ops.size).filter fun i => !listed.getD i false).length ≤ fuel → a.tmps.size = n → wpAnyIn md.F 0 P .any ops (Fin md Q ρ0 I0 w0 H0 n) fuel listed a w := by
  have nd2 : (y :: x :: r).Nodup := by
    simp only [List.nodup_cons, List.mem_cons, not_or] at nd ⊢
    exact ⟨⟨Ne.symm nd.1.1, nd.2.1⟩, nd.1.2, nd.2.2⟩
  have lt2 : ∀ f ∈ y :: x :: r, f < ops.size := fun f hf => lt f (by
    simp only [List.mem_cons] at hf ⊢
    rcases hf with h | h | h
    · exact .inr (.inl h)
    · exact .inl h
    · exact .inr (.inr h))
  have sz : ∀ {listed : Array Bool} {a : Act} {w : World}, ((∃ k ρ I, Mid ops T vs1 (x :: y :: r) hs1 listed k ρ I a w ∧ DOK md ρ w (hs1.getD k AHeap.empty) a.defers ∧ Ev ρ0 I0 w0 H0 ρ I w (hs1.getD k AHeap.empty)) ∨
        ∃ k ρ I, LD listed y ∧ Mid ops T vs2 (y :: x :: r) hs2 listed k ρ I a w ∧ DOK md ρ w (hs2.getD k AHeap.empty) a.defers ∧ Ev ρ0 I0 w0 H0 ρ I w (hs2.getD k AHeap.empty)) → listed.size = ops.size := by
    rintro listed a w (⟨k, ρ, I, m, _⟩ | ⟨k, ρ, I, _, m, _⟩) <;> exact m.size
  have fin : ∀ {listed : Array Bool} {a : Act} {w : World}, ((∃ k ρ I, Mid ops T vs1 (x :: y :: r) hs1 listed k ρ I a w ∧ DOK md ρ w (hs1.getD k AHeap.empty) a.defers ∧ Ev ρ0 I0 w0 H0 ρ I w (hs1.getD k AHeap.empty)) ∨
        ∃ k ρ I, LD listed y ∧ Mid ops T vs2 (y :: x :: r) hs2 listed k ρ I a w ∧ DOK md ρ w (hs2.getD k AHeap.empty) a.defers ∧ Ev ρ0 I0 w0 H0 ρ I w (hs2.getD k AHeap.empty)) → (∀ i, i < ops.size → LD listed i) → a.tmps.size = n → Fin md Q ρ0 I0 w0 H0 n .normal a w := by
    rintro listed a w (⟨k, ρ, I, m, hd, ev⟩ | ⟨k, ρ, I, _, m, hd, ev⟩) hall hn
    · exact m.done lt hv1 hQ1 hall hn hd ev
    · exact m.done lt2 hv2 hQ2 hall hn hd ev
  have some_ready : ∀ (listed : Array Bool), listed.size = ops.size → (∃ i, i < ops.size ∧ ¬ LD listed i) → Region.ready .any ops listed ≠ [] := by
    intro listed hsz ⟨i, hi, hni⟩
    induction i using Nat.strongRecOn with
    | _ i ih =>
      by_cases hp : ∀ e ∈ ops[i].after, Region.binds .any e = true → LD listed e.on
      · have : i ∈ Region.ready .any ops listed := by
          rw [mem_ready]
          refine ⟨?_, ops[i], by simp [hi], hp⟩
          unfold LD at hni
          rw [Array.getD_eq_getD_getElem?, Array.getElem?_eq_getElem (by omega)] at hni ⊢
          simpa using hni
        intro h
        rw [h] at this; cases this
      · obtain ⟨e, he⟩ := Classical.not_forall.1 hp
        obtain ⟨he, h⟩ := Classical.not_imp.1 he
        obtain ⟨hb, h⟩ := Classical.not_imp.1 h
        have hlt := F.fw i ops[i] (by simp [hi]) e he hb
        exact ih e.on hlt (by omega) h
  have count0 : ∀ (listed : Array Bool), ((List.range ops.size).filter fun i => !listed.getD i false).length ≤ 0 → ∀ i, i < ops.size → LD listed i := by
    intro listed h i hi
    have : (List.range ops.size).filter (fun i => !listed.getD i false) = [] := List.eq_nil_of_length_eq_zero (by omega)
    rw [List.filter_eq_nil_iff] at this
    have := this i (List.mem_range.2 hi)
    unfold LD
    simpa using this
  intro fuel
  induction fuel with
  | zero =>
    intro listed a w hm hc hn
    have hall := count0 listed hc
    refine ⟨?_, fin hm hall hn⟩
    refine List.eq_nil_iff_forall_not_mem.2 fun i hi => ?_
    obtain ⟨h0, o, ho, _⟩ := mem_ready.1 hi
    have hlt := (Array.getElem?_eq_some_iff.1 ho).1
    have := hall i hlt
    unfold LD at this
    have hsz := sz hm
    rw [Array.getD_eq_getD_getElem?, Array.getElem?_eq_getElem (by omega)] at h0 this
    simp at h0 this
    rw [h0] at this; cases this
  | succ fuel ih =>
    intro listed a w hm hc hn
    refine ⟨fun h => ?_, fun i hi => ?_⟩
    · refine fin hm (fun i hi => ?_) hn
      refine Classical.byContradiction fun hni => ?_
      exact some_ready listed (sz hm) ⟨i, hi, hni⟩ h
    · obtain ⟨h0', o, ho, hp⟩ := mem_ready.1 hi
      have hlt := (Array.getElem?_eq_some_iff.1 ho).1
      have hsz := sz hm
      have hni : ¬ LD listed i := by
        unfold LD
        rw [Array.getD_eq_getD_getElem?, Array.getElem?_eq_getElem (by omega)] at h0' ⊢
        simp at h0' ⊢
        exact h0'
      have hil : i < listed.size := by omega
      have hfil : ((List.range ops.size).filter fun j => !(listed.setIfInBounds i true).getD j false).length < ((List.range ops.size).filter fun j => !listed.getD j false).length := by
        have hsub : ((List.range ops.size).filter fun j => !(listed.setIfInBounds i true).getD j false) = ((List.range ops.size).filter fun j => !listed.getD j false).filter fun j => j != i := by
          rw [List.filter_filter]
          refine List.filter_congr fun j hj => ?_
          have hj' := List.mem_range.1 hj
          have hset := LD_set (listed := listed) (i := i) (j := j) (by omega)
          unfold LD at hset
          cases h1 : (listed.setIfInBounds i true).getD j false <;> cases h2 : listed.getD j false <;> simp [h1, h2] at hset ⊢
          all_goals first | exact hset | (simpa using hset) | skip
        rw [hsub]
        refine List.length_filter_lt_length_iff_exists.2 ⟨i, ?_, by simp⟩
        rw [List.mem_filter]
        refine ⟨List.mem_range.2 hlt, ?_⟩
        unfold LD at hni
        simpa using hni
      have mode2 : ∀ {k : Nat} {ρ : Rho} {I : Imm} (m : Mid ops T vs2 (y :: x :: r) hs2 listed k ρ I a w), DOK md ρ w (hs2.getD k AHeap.empty) a.defers → Ev ρ0 I0 w0 H0 ρ I w (hs2.getD k AHeap.empty) → (LD listed y ∨ i = y) →
          (∀ (j : Nat), (y :: x :: r)[j]? = some i → k = j) → wpOpIn md.F 0 P ops (Fin md Q ρ0 I0 w0 H0 n) i (wpAnyIn md.F 0 P .any ops (Fin md Q ρ0 I0 w0 H0 n) fuel (listed.setIfInBounds i true)) a w := by
        intro k ρ I m hd ev hy h1
        refine wpOpIn_mono ?_ (m.runP F (nodup_at nd2) lt2 N2 hv2 ho hp hni h1 hn hd ev)
        rintro a' w' ⟨k', ρ', I', m', hn', hd', ev'⟩
        exact ih _ a' w' (.inr ⟨k', ρ', I', (LD_set hil).2 (hy.elim .inr fun h => .inl h.symm), m', hd', ev'⟩) (by omega) hn'
      rcases hm with ⟨k, ρ, I, m, hd, ev⟩ | ⟨k, ρ, I, hy, m, hd, ev⟩
      · have hanc := m.up F.fw i o ho hp
        by_cases hsw : i = y ∧ k = 0
        · obtain ⟨rfl, rfl⟩ := hsw
          have m2 := m.swap F he hv h0
          refine mode2 m2 (by rw [h0]; exact hd) (by rw [h0]; exact ev) (.inr rfl) fun j hj => ?_
          exact nodup_at nd2 0 j i rfl hj
        · refine wpOpIn_mono ?_ (m.runP F (nodup_at nd) lt N1 hv1 ho hp hni (m.turn hc1 hanc hni fun h => by omega) hn hd ev)
          rintro a' w' ⟨k', ρ', I', m', hn', hd', ev'⟩
          exact ih _ a' w' (.inl ⟨k', ρ', I', m', hd', ev'⟩) (by omega) hn'
      · have hanc := m.up F.fw i o ho hp
        exact mode2 m hd ev (.inl hy) (m.turn hc2 hanc hni fun h => (m.pre 0 y rfl).1 hy)

theorem need_of {obs : List (Nat × Nat)} (hcov : coverB ops effs obs = true) (hob : AllP (Ob P ops n T vs effs hs) obs) : Need P ops n T vs effs hs := by
  intro i o k ho hk h1 h2 h3
  have hil := (Array.getElem?_eq_some_iff.1 ho).1
  have hmem : (i, k) ∈ obs := by
    simp only [coverB, List.all_eq_true, List.mem_range] at hcov
    have := hcov i hil k (by omega)
    simp only [Bool.or_eq_true, List.contains_iff_mem] at this
    refine this.resolve_left fun hbad => ?_
    split at hbad
    · rename_i j hj
      have := h1 j (idxOf_get hj)
      subst this
      simp at hbad
    · have : mayB ops effs i k = true := by
        simp only [mayB, List.all_eq_true]
        rintro ⟨e, j⟩ hej
        have hej' : effs[j]? = some e := by simpa using List.mem_zipIdx_iff_getElem?.1 hej
        simp only [Bool.and_eq_true, Bool.or_eq_true, Bool.not_eq_true']
        refine ⟨?_, ?_⟩
        · by_cases hm : e ∈ anc ops i
          · exact .inr (Eq.mpr Nat.blt_eq (h2 j e hej' hm))
          · left; rw [← Bool.not_eq_true, List.contains_iff_mem]; exact hm
        · by_cases hm : i ∈ anc ops e
          · exact .inr (Eq.mpr Nat.ble_eq (h3 j e hej' hm))
          · left; rw [← Bool.not_eq_true, List.contains_iff_mem]; exact hm
      rw [this] at hbad; cases hbad
  have := hob.of_mem (i, k) hmem
  simpa only [Ob, ho] using this

theorem AW.draw2 {id : Nat} {Q : APost} (hmix : P.follows .mixedOrders = true) (x y e : Nat) (r : List Nat) (vs1 vs2 : List AV) (hs1 hs2 : List AHeap) (obs1 obs2 : List (Nat × Nat)) (hF : pairsB ops n = true) (hc1 : chainB ops (y :: r) = true) (hc2 : chainB ops (x :: r) = true) (nd : (x :: y :: r).Nodup) (hlt : ((x :: y :: r).all fun f => Nat.blt f ops.size) = true)
    (hcov1 : coverB ops (x :: y :: r) obs1 = true) (hcov2 : coverB ops (y :: x :: r) obs2 = true) (he : earlyB ops (x :: y :: r) e = true) (hv1 : vs1.length = ops.size) (hv2 : vs2.length = ops.size) (h01 : hs1.getD 0 AHeap.empty = H) (h02 : hs2.getD 0 AHeap.empty = H)
    (hob1 : AllP (Ob P ops n T vs1 (x :: y :: r) hs1) obs1) (hob2 : AllP (Ob P ops n T vs2 (y :: x :: r) hs2) obs2) (hv : vs1.take e = vs2.take e) (hQ1 : Q .normal (frameAt T ops.toList vs1) (hs1.getD (x :: y :: r).length AHeap.empty)) (hQ2 : Q .normal (frameAt T ops.toList vs2) (hs2.getD (y :: x :: r).length AHeap.empty)) :
    AW md P (.region id ops true) Q T H n := by
  intro ρ I w a hc ht hn hd
  have hno : ∀ i, ¬ LD (Array.replicate ops.size false) i := by
    intro i h
    unfold LD at h
    rw [Array.getD_eq_getD_getElem?, Array.getElem?_replicate] at h
    split at h <;> simp at h
  refine wpIn_region_any hmix (Mid.any2 (pairsB_spec hF) hc1 hc2 nd (fun f hf => Eq.mp Nat.blt_eq (List.all_eq_true.1 hlt f hf)) (need_of hcov1 hob1) (need_of hcov2 hob2) hv1 hv2 he hv (by rw [h01, h02]) hQ1 hQ2 ops.size _ a _
    (.inl ⟨0, ρ, I, ⟨by simp, fun i o h => (hno i h).elim, fun j e _ => ⟨fun h => (hno e h).elim, fun h => by omega⟩, Nat.zero_le _, by rw [h01]; exact hc.drew, fun s i o h => (hno i h).elim, fun s _ => ht s⟩, by rw [h01]; exact hd.ev (.drew ρ I w H), by rw [h01]; exact .drew ρ I w H⟩) ?_ hn)
  refine Nat.le_trans (List.length_filter_le _ _) ?_
  simp
end
end Go.Ax
