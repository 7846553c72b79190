/- The abstract layer, part 10: steps in the form in which a walk takes them. -/
import Derived.Test.YtmjookofajlcoaaAx9
namespace Go.Ax
variable {md : Md}

section
variable {P : Program} {ops : Array Oper} {Q : APost} {os : List Oper} {T : Fr} {H H1 : AHeap} {n : Nat} {o : Oper} {x : AV}

/-- A step whose value and heap are known. -/
theorem AL.step {d : Nat} (hg : o.guard = none) (hd : o.dst = some d) (hn : Nat.blt d n = true) (h : AStepD P o T H x H1) (k : AL md P ops Q os ((d, x) :: T) H1 n) : AL md P ops Q (o :: os) T H n := by
  refine AL.cons hg (by simp only [dstB, hd]; exact decide_eq_true (Eq.mp Nat.blt_eq hn)) h ?_
  rintro y H' ⟨rfl, rfl⟩
  rw [hd]; exact k
theorem AL.step0 (hg : o.guard = none) (hd : o.dst = none) (h : AStepD P o T H x H1) (k : AL md P ops Q os T H1 n) : AL md P ops Q (o :: os) T H n := by
  refine AL.cons hg (by simp only [dstB, hd]) h ?_
  rintro y H' ⟨rfl, rfl⟩
  rw [hd]; exact k

/-- The same of a guarded operation whose guard says yes. -/
theorem AL.gstep {d j e : Nat} {want b : Bool} (hg : o.guard = some (j, want)) (hj : (ops[j]?).bind (·.dst) = some e) (he : Nat.blt e n = true) (hb : look T e = .v (.bool b)) (hbw : b = want) (hd : o.dst = some d) (hn : Nat.blt d n = true) (h : AStepD P o T H x H1)
    (k : AL md P ops Q os ((d, x) :: T) H1 n) : AL md P ops Q (o :: os) T H n := by
  subst hbw
  refine AL.guard_yes hg hj (Eq.mp Nat.blt_eq he) hb (by simp only [dstB, hd]; exact decide_eq_true (Eq.mp Nat.blt_eq hn)) h ?_
  rintro y H' ⟨rfl, rfl⟩
  rw [hd]; exact k
/-- Whose guard says no, or was passed over. -/
theorem AL.gskip {d j e : Nat} {want b : Bool} (hg : o.guard = some (j, want)) (hj : (ops[j]?).bind (·.dst) = some e) (he : Nat.blt e n = true) (hb : look T e = .v (.bool b)) (hbw : b = !want) (hd : o.dst = some d) (hn : Nat.blt d n = true)
    (k : AL md P ops Q os ((d, .v undef) :: T) H n) : AL md P ops Q (o :: os) T H n := by
  refine AL.guard_no hg hj (Eq.mp Nat.blt_eq he) hb (by rw [hbw]; cases want <;> simp) (by simp only [dstB, hd]; exact decide_eq_true (Eq.mp Nat.blt_eq hn)) ?_
  rw [hd]; exact k
/-- Whose guard was passed over itself. -/
theorem AL.gnone {d j e : Nat} {want : Bool} (hg : o.guard = some (j, want)) (hj : (ops[j]?).bind (·.dst) = some e) (hb : look T e = .v undef) (hd : o.dst = some d) (hn : Nat.blt d n = true)
    (k : AL md P ops Q os ((d, .v undef) :: T) H n) : AL md P ops Q (o :: os) T H n := by
  refine AL.guard_none hg hj hb (by simp only [dstB, hd]; exact decide_eq_true (Eq.mp Nat.blt_eq hn)) ?_
  rw [hd]; exact k
/-- Whose guard is open. -/
theorem AL.gmay {d j e : Nat} {want b : Bool} (hg : o.guard = some (j, want)) (hj : (ops[j]?).bind (·.dst) = some e) (he : Nat.blt e n = true) (hb : look T e = .v (.bool b)) (hd : o.dst = some d) (hn : Nat.blt d n = true)
    (h : b = want → AStepD P o T H x H) (k : AL md P ops Q os ((d, .cond (b == want) x) :: T) H n) : AL md P ops Q (o :: os) T H n := by
  refine AL.guard_maybe hg hj (Eq.mp Nat.blt_eq he) hb (by simp only [dstB, hd]; exact decide_eq_true (Eq.mp Nat.blt_eq hn)) h ?_
  rw [hd]; exact k
/-- Whose guard is open, and may have been passed over itself. -/
theorem AL.gmay2 {d j e : Nat} {want b c : Bool} (hg : o.guard = some (j, want)) (hj : (ops[j]?).bind (·.dst) = some e) (he : Nat.blt e n = true) (hb : look T e = .cond c (.v (.bool b))) (hd : o.dst = some d) (hn : Nat.blt d n = true)
    (h : c = true → b = want → AStepD P o T H x H) (k : AL md P ops Q os ((d, .cond (c && (b == want)) x) :: T) H n) : AL md P ops Q (o :: os) T H n := by
  refine AL.guard_maybe2 hg hj (Eq.mp Nat.blt_eq he) hb (by simp only [dstB, hd]; exact decide_eq_true (Eq.mp Nat.blt_eq hn)) h ?_
  rw [hd]; exact k
/-- Two ways: a slot's truth value is decided. -/
theorem AL.bool (e : Nat) {b : Bool} (hb : look T e = .v (.bool b)) (h1 : b = true → AL md P ops Q os ((e, .v (.bool true)) :: T) H n) (h2 : b = false → AL md P ops Q os ((e, .v (.bool false)) :: T) H n) : AL md P ops Q os T H n := by
  intro ρ0 I0 w0 H0 ρ I w a ev hc ht hn hd
  have key : TV ρ I ((e, .v (.bool b)) :: T) a := by
    intro i
    rw [look_cons]
    split
    · rename_i h; subst h; rw [← hb]; exact ht i
    · exact ht i
  cases b with
  | true => exact h1 rfl ρ0 I0 w0 H0 ρ I w a ev hc key hn hd
  | false => exact h2 rfl ρ0 I0 w0 H0 ρ I w a ev hc key hn hd

/-- A call. -/
theorem AL.call {d : Nat} {K : AV → AHeap → Prop} (hg : o.guard = none) (hd : o.dst = some d) (hn : Nat.blt d n = true) (h : AStep P o T H K) (k : ∀ y H', K y H' → AL md P ops Q os ((d, y) :: T) H' n) : AL md P ops Q (o :: os) T H n := by
  refine AL.cons hg (by simp only [dstB, hd]; exact decide_eq_true (Eq.mp Nat.blt_eq hn)) h ?_
  intro y H' hk
  rw [hd]; exact k y H' hk
theorem AL.call0 {K : AV → AHeap → Prop} (hg : o.guard = none) (hd : o.dst = none) (h : AStep P o T H K) (k : ∀ y H', K y H' → AL md P ops Q os T H' n) : AL md P ops Q (o :: os) T H n := by
  refine AL.cons hg (by simp only [dstB, hd]) h ?_
  intro y H' hk
  rw [hd]; exact k y H' hk
theorem AL.gcall {d j e : Nat} {want b : Bool} {K : AV → AHeap → Prop} (hg : o.guard = some (j, want)) (hj : (ops[j]?).bind (·.dst) = some e) (he : Nat.blt e n = true) (hb : look T e = .v (.bool b)) (hbw : b = want) (hd : o.dst = some d) (hn : Nat.blt d n = true) (h : AStep P o T H K)
    (k : ∀ y H', K y H' → AL md P ops Q os ((d, y) :: T) H' n) : AL md P ops Q (o :: os) T H n := by
  subst hbw
  refine AL.guard_yes hg hj (Eq.mp Nat.blt_eq he) hb (by simp only [dstB, hd]; exact decide_eq_true (Eq.mp Nat.blt_eq hn)) h ?_
  intro y H' hk
  rw [hd]; exact k y H' hk
end

theorem AW.bool {P : Program} {c : Code} {Q : APost} {T : Fr} {H : AHeap} {n : Nat} (e : Nat) {b : Bool} (hb : look T e = .v (.bool b)) (h1 : b = true → AW md P c Q ((e, .v (.bool true)) :: T) H n) (h2 : b = false → AW md P c Q ((e, .v (.bool false)) :: T) H n) : AW md P c Q T H n := by
  intro ρ I w a hc ht hn hd
  have key : TV ρ I ((e, .v (.bool b)) :: T) a := by
    intro i
    rw [look_cons]
    split
    · rename_i h; subst h; rw [← hb]; exact ht i
    · exact ht i
  cases b with
  | true => exact h1 rfl ρ I w a hc key hn hd
  | false => exact h2 rfl ρ I w a hc key hn hd

/-- A function that hands back what its slots hold. -/
theorem RetQ.mk {TT : Nat → TI} {rs : Array ResultVar} {R : AV → AHeap → Prop} {e : Exit} {T : Fr} {H : AHeap} (he : e = .normal ∨ e = .ret) {xs : List AV} (hr : retA TT T H rs.toList = some xs) (h : R (tupA xs) H) : RetQ TT rs R e T H :=
  ⟨he, xs, tupA xs, H, hr, .refl _ _, h⟩

/-! ### Steps with their values written out -/
section
variable {P : Program} {o : Oper} {T : Fr} {H : AHeap} {y : AV}

theorem AStepD.move' {x : Operand} (ho : o.op = .move x) (hv : aev T x = y) : AStepD P o T H y H := hv ▸ .move ho
theorem AStepD.assign' {x : Operand} (ho : o.op = .assign x) (hv : aev T x = y) : AStepD P o T H y H := hv ▸ .assign ho
theorem AStepD.nilCheck_ptr {x : Operand} {l off : Nat} (ho : o.op = .nilCheck x) (hv : aev T x = .ptr l off) : AStepD P o T H (.ptr l off) H := hv ▸ .nilCheck ho (.inl ⟨_, _, hv⟩)
theorem AStepD.nilCheck_ip {x : Operand} {cs : List AV} (ho : o.op = .nilCheck x) (hv : aev T x = .ip cs) : AStepD P o T H (.ip cs) H := hv ▸ .nilCheck ho (.inr (.inl ⟨_, hv⟩))
theorem AStepD.nilCheck_func {x : Operand} {f : FuncId} {cs : List AV} (ho : o.op = .nilCheck x) (hv : aev T x = .func (.func f) cs) : AStepD P o T H (.func (.func f) cs) H := hv ▸ .nilCheck ho (.inr (.inr ⟨_, _, hv⟩))
theorem AStepD.pick_true' {c x z : Operand} (ho : o.op = .pick c x z) (hc : aev T c = .v (.bool true)) (hv : aev T x = y) : AStepD P o T H y H := hv ▸ .pick_true ho hc
theorem AStepD.pick_false' {c x z : Operand} (ho : o.op = .pick c x z) (hc : aev T c = .v (.bool false)) (hv : aev T z = y) : AStepD P o T H y H := hv ▸ .pick_false ho hc

variable {TT : Nat → TI} (hT : TOk P TT)
include hT
theorem AStepD.load_ptr' {t : TypeId} {x : Operand} {l off : Nat} {ty : TypeId} {cs : List AV} (ho : o.op = .load t x) (hx : aev T x = .ptr l off) (hH : H.get l = some (.cells ty cs)) (hok : (TT t).ok = true)
    (hk : off + (TT t).size ≤ cs.length) (h1 : (TT t).agg = false → (TT t).size = 1) (hv : wrapA (TT t).agg ((cs.drop off).take (TT t).size) = y) : AStepD P o T H y H := hv ▸ .load_ptr hT ho hx hok hH hk h1
theorem AStepD.load_ip' {t : TypeId} {x : Operand} {cs : List AV} (ho : o.op = .load t x) (hx : aev T x = .ip cs) (hok : (TT t).ok = true)
    (hk : (TT t).size ≤ cs.length) (h1 : (TT t).agg = false → (TT t).size = 1) (hv : wrapA (TT t).agg (cs.take (TT t).size) = y) : AStepD P o T H y H := hv ▸ .load_ip hT ho hx hok hk h1
theorem AStepD.fieldAddr' {s : TypeId} {x : Operand} {k l off off' : Nat} {fs : Array Field} {f : Field} (ho : o.op = .fieldAddr s x k) (hx : aev T x = .ptr l off) (hok : (TT s).ok = true) (hs : (TT s).und = .struct fs) (hf : fs[k]? = some f)
    (hokf : (TT f.type).ok = true) (h0 : Nat.beq (TT f.type).size 0 = false) (hv : off + f.offset = off') : AStepD P o T H (.ptr l off') H := hv ▸ .fieldAddr hT ho hx hok hs hf hokf (fun h => by rw [h] at h0; cases h0)
theorem AStepD.fieldAddr_ip' {s : TypeId} {x : Operand} {k : Nat} {cs cs' : List AV} {fs : Array Field} {f : Field} (ho : o.op = .fieldAddr s x k) (hx : aev T x = .ip cs) (hok : (TT s).ok = true) (hs : (TT s).und = .struct fs) (hf : fs[k]? = some f)
    (hokf : (TT f.type).ok = true) (h0 : Nat.beq (TT f.type).size 0 = false) (hv : cs.drop f.offset = cs') : AStepD P o T H (.ip cs') H := hv ▸ .fieldAddr_ip hT ho hx hok hs hf hokf (fun h => by rw [h] at h0; cases h0)
theorem AStepD.len' {t : TypeId} {x : Operand} {n : Nat} {z : AV} (ho : o.op = .call { callee := .builtin .len, args := #[x], argTypes := #[t] }) (hx : aev T x = z) (hn : lenA z = some n) (hok : (TT t).ok = true) (hu : (TT t).und = .string ∨ ∃ e, (TT t).und = .slice e)
    (hk : (TT t).und = .string ↔ ∃ s, z = .v (.string s)) : AStepD P o T H (.v (.int .i64 (n : Int))) H := .len hT ho hok hu (by rw [hx]; exact hn) (by rw [hx]; exact hk)
end


theorem AL.nil_then {P : Program} {ops : Array Oper} {next : Fr → AHeap → Prop} {Q : APost} {T : Fr} {H : AHeap} {n : Nat} (h : next T H) : AL md P ops (AThen next Q) [] T H n := .nil h

/-- A region ahead of what follows; what follows stands behind a name. -/
theorem AW.seq_region {P : Program} {id : Nat} {ops : Array Oper} {y : Code} {Q : APost} {T : Fr} {H : AHeap} {n : Nat}
    (h : ∀ K : Fr → AHeap → Prop, (∀ T H, AW md P y Q T H n → K T H) → AL md P ops (AThen K Q) ops.toList T H n) : AW md P (.seq (.region id ops false) y) Q T H n :=
  .seq (.region (h _ fun _ _ h => h))

/-- For looking: what a walk has come to. -/
def Sees {α : Type} (_ : α) (_ : Fr) (_ : AHeap) : Prop := True
theorem AL.see {P : Program} {ops : Array Oper} {Q : APost} {os : List Oper} {T : Fr} {H : AHeap} {n : Nat} (h : Sees (os.head?.map fun o => (o.dst, o.op)) T H → AL md P ops Q os T H n) : AL md P ops Q os T H n := h trivial
theorem AW.see {P : Program} {c : Code} {Q : APost} {T : Fr} {H : AHeap} {n : Nat} (h : Sees c T H → AW md P c Q T H n) : AW md P c Q T H n := h trivial

theorem AHeap.ext {H H' : AHeap} (h : ∀ k, H.get k = H'.get k) (hn : H.next = H'.next) : H = H' := by
  cases H; cases H'; simp at h hn; simp [hn]; funext k; exact h k
end Go.Ax
