/- The abstract layer, part 5: operators and conversions of plain values. -/
import Derived.Test.YtmjookofajlcoaaAx4
import Derived.IntWalk
namespace Go.Ax

section
variable {P : Program} {o : Oper} {T : Fr} {H : AHeap}

theorem run_guard_int (op : BinOp) (t : TypeId) (x y : Operand) (k k' : IntKind) (a b : Int) (w : World) : (eqGuard op t x y (.int k a) (.int k' b)).run P w = .ok () w := by
  cases op <;> simp [eqGuard]
theorem run_guard_string (op : BinOp) (t : TypeId) (x y : Operand) (a b : ByteArray) (w : World) : (eqGuard op t x y (.string a) (.string b)).run P w = .ok () w := by
  cases op <;> simp [eqGuard]
theorem run_guard_bool (op : BinOp) (t : TypeId) (x y : Operand) (a b : Bool) (w : World) : (eqGuard op t x y (.bool a) (.bool b)).run P w = .ok () w := by
  cases op <;> simp [eqGuard]

/-- Two integers of one kind: what the operator makes of them. -/
theorem AStepD.bin_int {op : BinOp} {t yt : TypeId} {x y : Operand} {k : IntKind} {a b : Int} {r : Value} (ho : o.op = .binOp op t x y yt) (hx : aev T x = .v (.int k a)) (hy : aev T y = .v (.int k b))
    (hr : ∀ w, (binOp op t (.int k a) (.int k b)).run P w = .ok r w) : AStepD P o T H (.v r) H := by
  refine .of_pure fun ρ I w a' _ ht => ⟨r, ?_, .v r⟩
  have e1 := cv_v (aev_eq ht hx)
  have e2 := cv_v (aev_eq ht hy)
  simp only [execOp, ho, Sem.run_bind, e1, e2, run_guard_int, Result.andThen, hr, Sem.run_pure]

section ints
variable {t yt : TypeId} {x y : Operand} {k : IntKind} {a b r : Int}
theorem AStepD.add (ho : o.op = .binOp .add t x y yt) (hx : aev T x = .v (.int k a)) (hy : aev T y = .v (.int k b)) (hr : k.wrap (a + b) = r) : AStepD P o T H (.v (.int k r)) H :=
  .bin_int ho hx hy fun w => by simp [binOp, Op.intArith, hr]
theorem AStepD.sub (ho : o.op = .binOp .sub t x y yt) (hx : aev T x = .v (.int k a)) (hy : aev T y = .v (.int k b)) (hr : k.wrap (a - b) = r) : AStepD P o T H (.v (.int k r)) H :=
  .bin_int ho hx hy fun w => by simp [binOp, Op.intArith, hr]
theorem AStepD.mul (ho : o.op = .binOp .mul t x y yt) (hx : aev T x = .v (.int k a)) (hy : aev T y = .v (.int k b)) (hr : k.wrap (a * b) = r) : AStepD P o T H (.v (.int k r)) H :=
  .bin_int ho hx hy fun w => by simp [binOp, Op.intArith, hr]
theorem AStepD.quo (ho : o.op = .binOp .quo t x y yt) (hx : aev T x = .v (.int k a)) (hy : aev T y = .v (.int k b)) (h0 : b ≠ 0) (hr : k.wrap (a.tdiv b) = r) : AStepD P o T H (.v (.int k r)) H :=
  .bin_int ho hx hy fun w => by simp [binOp, Op.intDiv, h0, hr]
theorem AStepD.rem (ho : o.op = .binOp .rem t x y yt) (hx : aev T x = .v (.int k a)) (hy : aev T y = .v (.int k b)) (h0 : b ≠ 0) (hr : a.tmod b = r) : AStepD P o T H (.v (.int k r)) H :=
  .bin_int ho hx hy fun w => by simp [binOp, Op.intDiv, h0, hr]
theorem AStepD.eql (ho : o.op = .binOp .eql t x y yt) (hx : aev T x = .v (.int k a)) (hy : aev T y = .v (.int k b)) : AStepD P o T H (.v (.bool (decide (a = b)))) H :=
  .bin_int ho hx hy fun w => by simp [binOp, Op.intCmp]; by_cases h : a = b <;> simp [h]
theorem AStepD.neq (ho : o.op = .binOp .neq t x y yt) (hx : aev T x = .v (.int k a)) (hy : aev T y = .v (.int k b)) : AStepD P o T H (.v (.bool (decide (a ≠ b)))) H :=
  .bin_int ho hx hy fun w => by simp [binOp, Op.intCmp]; by_cases h : a = b <;> simp [h]
theorem AStepD.lss (ho : o.op = .binOp .lss t x y yt) (hx : aev T x = .v (.int k a)) (hy : aev T y = .v (.int k b)) : AStepD P o T H (.v (.bool (decide (a < b)))) H :=
  .bin_int ho hx hy fun w => by simp [binOp, Op.intCmp]
theorem AStepD.leq (ho : o.op = .binOp .leq t x y yt) (hx : aev T x = .v (.int k a)) (hy : aev T y = .v (.int k b)) : AStepD P o T H (.v (.bool (decide (a ≤ b)))) H :=
  .bin_int ho hx hy fun w => by simp [binOp, Op.intCmp]
theorem AStepD.gtr (ho : o.op = .binOp .gtr t x y yt) (hx : aev T x = .v (.int k a)) (hy : aev T y = .v (.int k b)) : AStepD P o T H (.v (.bool (decide (b < a)))) H :=
  .bin_int ho hx hy fun w => by simp [binOp, Op.intCmp]
theorem AStepD.geq (ho : o.op = .binOp .geq t x y yt) (hx : aev T x = .v (.int k a)) (hy : aev T y = .v (.int k b)) : AStepD P o T H (.v (.bool (decide (b ≤ a)))) H :=
  .bin_int ho hx hy fun w => by simp [binOp, Op.intCmp]

/-- Bits: as bit vectors of the kind's width. -/
def bitsOf (op : BinOp) (n : Nat) (a b : BitVec n) : BitVec n :=
  match op with
  | .and => a &&& b
  | .or => a ||| b
  | .xor => a ^^^ b
  | _ => a &&& ~~~b
theorem AStepD.bits {op : BinOp} (ho : o.op = .binOp op t x y yt) (hop : op = .and ∨ op = .or ∨ op = .xor ∨ op = .andNot) (hx : aev T x = .v (.int k a)) (hy : aev T y = .v (.int k b))
    (hr : k.wrap (bitsOf op k.bits (BitVec.ofInt k.bits a) (BitVec.ofInt k.bits b)).toNat = r) : AStepD P o T H (.v (.int k r)) H :=
  .bin_int ho hx hy fun w => by rcases hop with rfl | rfl | rfl | rfl <;> simp [binOp, Op.intBits, ← hr, bitsOf]
end ints

/-- Shifts. -/
theorem AStepD.shl {t yt : TypeId} {x y : Operand} {k yk : IntKind} {a b r : Int} (ho : o.op = .binOp .shl t x y yt) (hx : aev T x = .v (.int k a)) (hy : aev T y = .v (.int yk b)) (h0 : 0 ≤ b) (hr : k.wrap (a * 2 ^ min b.toNat k.bits) = r) :
    AStepD P o T H (.v (.int k r)) H := by
  refine .of_pure fun ρ I w a' _ ht => ⟨_, ?_, .v _⟩
  have e1 := cv_v (aev_eq ht hx)
  have e2 := cv_v (aev_eq ht hy)
  simp only [execOp, ho, Sem.run_bind, e1, e2, run_guard_int, Result.andThen, Sem.run_pure]
  simp [binOp, Op.shift, show ¬ b < 0 by omega, hr]
theorem AStepD.shr {t yt : TypeId} {x y : Operand} {k yk : IntKind} {a b r : Int} (ho : o.op = .binOp .shr t x y yt) (hx : aev T x = .v (.int k a)) (hy : aev T y = .v (.int yk b)) (h0 : 0 ≤ b) (hr : a.fdiv (2 ^ min b.toNat k.bits) = r) :
    AStepD P o T H (.v (.int k r)) H := by
  refine .of_pure fun ρ I w a' _ ht => ⟨_, ?_, .v _⟩
  have e1 := cv_v (aev_eq ht hx)
  have e2 := cv_v (aev_eq ht hy)
  simp only [execOp, ho, Sem.run_bind, e1, e2, run_guard_int, Result.andThen, Sem.run_pure]
  simp [binOp, Op.shift, show ¬ b < 0 by omega, hr]

/-- Strings. -/
theorem AStepD.bin_str {op : BinOp} {t yt : TypeId} {x y : Operand} {a b : ByteArray} {r : Value} (ho : o.op = .binOp op t x y yt) (hx : aev T x = .v (.string a)) (hy : aev T y = .v (.string b))
    (hr : ∀ w, (binOp op t (.string a) (.string b)).run P w = .ok r w) : AStepD P o T H (.v r) H := by
  refine .of_pure fun ρ I w a' _ ht => ⟨r, ?_, .v r⟩
  have e1 := cv_v (aev_eq ht hx)
  have e2 := cv_v (aev_eq ht hy)
  simp only [execOp, ho, Sem.run_bind, e1, e2, run_guard_string, Result.andThen, hr, Sem.run_pure]
theorem bytes_beq (a b : ByteArray) : (a.toList == b.toList) = decide (a.data.toList = b.data.toList) := by
  rw [ByteArray.toList_eq a, ByteArray.toList_eq b]
  by_cases h : a.data.toList = b.data.toList
  · rw [h]; simp
  · rw [decide_eq_false h]
    exact beq_eq_false_iff_ne.2 h
theorem AStepD.str_eql {t yt : TypeId} {x y : Operand} {a b : ByteArray} (ho : o.op = .binOp .eql t x y yt) (hx : aev T x = .v (.string a)) (hy : aev T y = .v (.string b)) : AStepD P o T H (.v (.bool (decide (a.data.toList = b.data.toList)))) H :=
  .bin_str ho hx hy fun w => by simp only [binOp, Op.stringOp, Sem.run_pure, bytes_beq]
theorem AStepD.str_neq {t yt : TypeId} {x y : Operand} {a b : ByteArray} (ho : o.op = .binOp .neq t x y yt) (hx : aev T x = .v (.string a)) (hy : aev T y = .v (.string b)) : AStepD P o T H (.v (.bool (decide (a.data.toList ≠ b.data.toList)))) H :=
  .bin_str ho hx hy fun w => by simp only [binOp, Op.stringOp, Sem.run_pure, bytes_beq]; by_cases h : a.data.toList = b.data.toList <;> simp [h]
theorem AStepD.str_add {t yt : TypeId} {x y : Operand} {a b : ByteArray} (ho : o.op = .binOp .add t x y yt) (hx : aev T x = .v (.string a)) (hy : aev T y = .v (.string b)) (hs : a.size + b.size ≤ 9223372036854775807) : AStepD P o T H (.v (.string (a ++ b))) H :=
  .bin_str ho hx hy fun w => by
    have : ¬ (((a.size + b.size : Nat) : Int) > IntKind.i64.max) := by simp [IntKind.max, IntKind.signed, IntKind.bits]; omega
    simp only [binOp, Op.stringOp, if_neg this, Sem.run_pure]

theorem AStepD.not {t : TypeId} {x : Operand} {b : Bool} (ho : o.op = .unOp .not t x) (hx : aev T x = .v (.bool b)) : AStepD P o T H (.v (.bool (!b))) H :=
  .of_pure fun ρ I w a' _ ht => ⟨_, by simp [execOp, ho, Op.unary, cv_v (aev_eq ht hx)], .v _⟩
theorem AStepD.neg {t : TypeId} {x : Operand} {k : IntKind} {a r : Int} (ho : o.op = .unOp .neg t x) (hx : aev T x = .v (.int k a)) (hr : k.wrap (0 - a) = r) : AStepD P o T H (.v (.int k r)) H :=
  .of_pure fun ρ I w a' _ ht => ⟨_, by simp only [execOp, ho, Op.unary, cv_v (aev_eq ht hx), Op.intArith, hr, Sem.run_bind, Sem.run_pure, Result.andThen], .v _⟩

variable {TT : Nat → TI} (hT : TOk P TT)
include hT

omit hT in
/-- '==' and '!=' by what 'equalIn' says at whatever depth. -/
theorem AStepD.eq_of {t yt : TypeId} {x y : Operand} {b : Bool}
    (h : ∀ ρ I w a, Conc ρ I w H → TV ρ I T a → (∀ op, (eqGuard op t x y (a.eval x) (a.eval y)).run P w = .ok () w) ∧ (∀ d, (Op.equalIn (d + 1) t (a.eval x) (a.eval y)).run P w = .ok b w) ∧
      (binOp .eql t (a.eval x) (a.eval y) = (do pure (.bool (← Op.equal t (a.eval x) (a.eval y))))) ∧ (binOp .neq t (a.eval x) (a.eval y) = (do pure (.bool (!(← Op.equal t (a.eval x) (a.eval y))))))) :
    (o.op = .binOp .eql t x y yt → AStepD P o T H (.v (.bool b)) H) ∧ (o.op = .binOp .neq t x y yt → AStepD P o T H (.v (.bool (!b))) H) := by
  refine ⟨fun ho => .of_pure fun ρ I w a hc ht => ?_, fun ho => .of_pure fun ρ I w a hc ht => ?_⟩ <;> obtain ⟨h1, h2, h3, h4⟩ := h ρ I w a hc ht
  · have h5 := h2 9999
    refine ⟨_, ?_, .v _⟩
    simp only [execOp, ho, Sem.run_bind, h1, Result.andThen, h3, Op.equal, Op.maxDepth, h5, Sem.run_pure]
  · have h5 := h2 9999
    refine ⟨_, ?_, .v _⟩
    simp only [execOp, ho, Sem.run_bind, h1, Result.andThen, h4, Op.equal, Op.maxDepth, h5, Sem.run_pure]

theorem AStepD.bool_eq {t yt : TypeId} {x y : Operand} {a b : Bool} (hx : aev T x = .v (.bool a)) (hy : aev T y = .v (.bool b)) (hok : (TT t).ok = true) (hu : (TT t).und = .bool) :
    (o.op = .binOp .eql t x y yt → AStepD P o T H (.v (.bool (a == b))) H) ∧ (o.op = .binOp .neq t x y yt → AStepD P o T H (.v (.bool (!(a == b)))) H) := by
  refine AStepD.eq_of fun ρ I w a' _ ht => ?_
  rw [cv_v (aev_eq ht hx), cv_v (aev_eq ht hy)]
  refine ⟨fun op => run_guard_bool op t x y a b w, fun d => ?_, rfl, rfl⟩
  simp [Op.equalIn, (hT t hok).run_und w, hu]

/-- A pointer held against nil. -/
theorem AStepD.ptr_nil {t yt e : TypeId} {x y : Operand} (hx : (∃ l off, aev T x = .ptr l off) ∨ ∃ cs, aev T x = .ip cs) (hy : aev T y = .v (.pointer none)) (hok : (TT t).ok = true) (hu : (TT t).und = .pointer e) :
    (o.op = .binOp .eql t x y yt → AStepD P o T H (.v (.bool false)) H) ∧ (o.op = .binOp .neq t x y yt → AStepD P o T H (.v (.bool true)) H) := by
  refine AStepD.eq_of fun ρ I w a' _ ht => ?_
  have hv := aev_cv ht x
  rw [cv_v (aev_eq ht hy)]
  obtain ⟨p, hp⟩ : ∃ p, a'.eval x = .pointer (some p) := by
    generalize a'.eval x = u at hv
    rcases hx with ⟨l, off, h⟩ | ⟨cs, h⟩ <;> (rw [h] at hv; cases hv; exact ⟨_, rfl⟩)
  rw [hp]
  refine ⟨fun op => by cases op <;> simp [eqGuard], fun d => ?_, rfl, rfl⟩
  simp [Op.equalIn, (hT t hok).run_und w, hu]
theorem AStepD.nil_nil {t yt e : TypeId} {x y : Operand} (hx : aev T x = .v (.pointer none)) (hy : aev T y = .v (.pointer none)) (hok : (TT t).ok = true) (hu : (TT t).und = .pointer e) :
    (o.op = .binOp .eql t x y yt → AStepD P o T H (.v (.bool true)) H) ∧ (o.op = .binOp .neq t x y yt → AStepD P o T H (.v (.bool false)) H) := by
  refine AStepD.eq_of fun ρ I w a' _ ht => ?_
  rw [cv_v (aev_eq ht hy), cv_v (aev_eq ht hx)]
  refine ⟨fun op => by cases op <;> simp [eqGuard], fun d => ?_, rfl, rfl⟩
  simp [Op.equalIn, (hT t hok).run_und w, hu]

/-- An interface value held against nil. -/
theorem AStepD.iface_nil {t yt u : TypeId} {x y : Operand} {z : AV} {ms : Array (String × TypeId)} (hx : aev T x = .iface u z) (hy : aev T y = .v .nilIface) (hok : (TT t).ok = true) (hu : (TT t).und = .interface ms) :
    (o.op = .binOp .eql t x y yt → AStepD P o T H (.v (.bool false)) H) ∧ (o.op = .binOp .neq t x y yt → AStepD P o T H (.v (.bool true)) H) := by
  refine AStepD.eq_of fun ρ I w a' _ ht => ?_
  have hv := aev_eq ht hx
  rw [cv_v (aev_eq ht hy)]
  generalize a'.eval x = q at hv
  cases hv with
  | iface h =>
  refine ⟨fun op => by cases op <;> simp [eqGuard], fun d => ?_, rfl, rfl⟩
  simp [Op.equalIn, (hT t hok).run_und w, hu]
theorem AStepD.nilIface_nil {t yt : TypeId} {x : Operand} {ms : Array (String × TypeId)} {c : Value} (hx : aev T x = .v .nilIface) (hc : c = .nilIface) (hok : (TT t).ok = true) (hu : (TT t).und = .interface ms) :
    (o.op = .binOp .eql t x (.const c) yt → AStepD P o T H (.v (.bool true)) H) ∧ (o.op = .binOp .neq t x (.const c) yt → AStepD P o T H (.v (.bool false)) H) := by
  subst hc
  refine AStepD.eq_of fun ρ I w a' _ ht => ?_
  rw [cv_v (aev_eq ht hx)]
  refine ⟨fun op => by cases op <;> simp [eqGuard, Act.eval], fun d => ?_, rfl, rfl⟩
  simp [Op.equalIn, (hT t hok).run_und w, hu, Act.eval]

/-- A slice held against nil: of one of no elements nothing is known. -/
theorem AStep.slice_nil {t yt e : TypeId} {x y : Operand} (hx : (∃ n cs, aev T x = .vec n cs) ∨ (∃ l off len k, aev T x = .sl l off len k) ∨ aev T x = .v (.slice none 0 0)) (hy : aev T y = .v (.slice none 0 0)) (hok : (TT t).ok = true) (hu : (TT t).und = .slice e) :
    (o.op = .binOp .eql t x y yt → AStep P o T H fun z H' => H' = H ∧ ∃ b, z = .v (.bool b)) ∧ (o.op = .binOp .neq t x y yt → AStep P o T H fun z H' => H' = H ∧ ∃ b, z = .v (.bool b)) := by
  have key : ∀ ρ I w a, Conc ρ I w H → TV ρ I T a → ∃ b, (∀ op, (eqGuard op t x y (a.eval x) (a.eval y)).run P w = .ok () w) ∧ (∀ d, (Op.equalIn (d + 1) t (a.eval x) (a.eval y)).run P w = .ok b w) ∧
      (binOp .eql t (a.eval x) (a.eval y) = (do pure (.bool (← Op.equal t (a.eval x) (a.eval y))))) ∧ (binOp .neq t (a.eval x) (a.eval y) = (do pure (.bool (!(← Op.equal t (a.eval x) (a.eval y)))))) := by
    intro ρ I w a' _ ht
    have hv := aev_cv ht x
    rw [cv_v (aev_eq ht hy)]
    obtain ⟨p, n, c, hp⟩ : ∃ p n c, a'.eval x = .slice p n c := by
      generalize a'.eval x = u at hv
      rcases hx with ⟨n, cs, h⟩ | ⟨l, off, len, k, h⟩ | h <;> (rw [h] at hv; cases hv <;> exact ⟨_, _, _, rfl⟩)
    rw [hp]
    refine ⟨p.isNone, fun op => by cases op <;> simp [eqGuard], fun d => ?_, rfl, rfl⟩
    cases p <;> simp [Op.equalIn, (hT t hok).run_und w, hu]
  refine ⟨fun ho => .of_run fun ρ I w a hc ht => ?_, fun ho => .of_run fun ρ I w a hc ht => ?_⟩ <;> obtain ⟨b, h1, h2, h3, h4⟩ := key ρ I w a hc ht
  · have h5 := h2 9999
    refine ⟨_, w, _, ρ, I, H, ?_, ⟨rfl, b, rfl⟩, .v _, hc, .refl ρ I w H⟩
    simp only [execOp, ho, Sem.run_bind, h1, Result.andThen, h3, Op.equal, Op.maxDepth, h5, Sem.run_pure]
  · have h5 := h2 9999
    refine ⟨_, w, _, ρ, I, H, ?_, ⟨rfl, !b, rfl⟩, .v _, hc, .refl ρ I w H⟩
    simp only [execOp, ho, Sem.run_bind, h1, Result.andThen, h4, Op.equal, Op.maxDepth, h5, Sem.run_pure]

/-- Conversions between integers, and between types over one type. -/
theorem AStepD.convert_int {s d : TypeId} {x : Operand} {k k' : IntKind} {a r : Int} (ho : o.op = .convert s d x) (hx : aev T x = .v (.int k a)) (hok : (TT s).ok = true) (hokd : (TT d).ok = true) (hu : (TT d).und = .int k') (hr : k'.wrap a = r) :
    AStepD P o T H (.v (.int k' r)) H := by
  refine .of_pure fun ρ I w a' _ ht => ⟨_, ?_, .v _⟩
  simp only [execOp, ho, Sem.run_bind, convert, (hT s hok).run_und w, (hT d hokd).run_und w, hu, Result.andThen, cv_v (aev_eq ht hx), Conv.intToInt, Sem.run_pure, hr]
theorem AStepD.convert_str {s d : TypeId} {x : Operand} {a : ByteArray} (ho : o.op = .convert s d x) (hx : aev T x = .v (.string a)) (hok : (TT s).ok = true) (hokd : (TT d).ok = true) (hus : (TT s).und = .string) (hu : (TT d).und = .string) :
    AStepD P o T H (.v (.string a)) H := by
  refine .of_pure fun ρ I w a' _ ht => ⟨_, ?_, .v _⟩
  simp only [execOp, ho, Sem.run_bind, convert, (hT s hok).run_und w, (hT d hokd).run_und w, hu, hus, Result.andThen, cv_v (aev_eq ht hx), Sem.run_pure]
end
end Go.Ax
