/- The abstract layer, part 3: what changes of memory do to 'Conc'; one operation; a list of operations. -/
import Derived.Test.YtmjookofajlcoaaAx2
import Derived.Laws.CopyRow
import Derived.Laws.Append
import Derived.Laws.AppendOwn
namespace Go.Ax
variable {md : Md}

theorem ObjAt.mono {ρ ρ' : Rho} {I I' : Imm} {w w' : World} {B : Blk} {o : AObj} (h : ObjAt ρ I w B o) (hρ : ∀ l B, ρ l = some B → ρ' l = some B) (hI : ∀ b a, I b = some a → I' b = some a)
    (hw : w'.heap[B.b]? = w.heap[B.b]?) : ObjAt ρ' I' w' B o := by
  cases o with
  | cells t cs =>
    obtain ⟨arr, h1, h2, h3, h4⟩ := h
    exact ⟨arr, hw.trans h1, h2, h3, fun i a u ha hu => (h4 i a u ha hu).mono hρ hI⟩
  | map es =>
    obtain ⟨ents, clock, h1, h2, h3, h4, h5⟩ := h
    exact ⟨ents, clock, hw.trans h1, h2, fun i e en he hn => ⟨(h3 i e en he hn).1, (h3 i e en he hn).2.mono hρ hI⟩, h4, h5⟩
  | obj o => exact hw.trans h
  | lp rec cs => exact ⟨hw.trans h.1, fun i a ha => (h.2 i a ha).mono hρ hI⟩

theorem ObjAt.lt {ρ : Rho} {I : Imm} {w : World} {B : Blk} {o : AObj} (h : ObjAt ρ I w B o) : B.b < w.heap.size := by
  cases o with
  | cells t cs => obtain ⟨arr, h1, _⟩ := h; exact (Array.getElem?_eq_some_iff.1 h1).1
  | map es => obtain ⟨ents, clock, h1, _⟩ := h; exact (Array.getElem?_eq_some_iff.1 h1).1
  | obj o => exact (Array.getElem?_eq_some_iff.1 h).1
  | lp rec cs => exact (Array.getElem?_eq_some_iff.1 h.1).1

theorem Conc.imm_lt {ρ : Rho} {I : Imm} {w : World} {H : AHeap} (hc : Conc ρ I w H) {b : Nat} {arr : Array Value} (h : I b = some arr) : b < w.heap.size := by
  obtain ⟨t, fz, hb⟩ := hc.imm b arr h
  exact (Array.getElem?_eq_some_iff.1 hb).1

/-- An immutable block belongs to no location that lives. -/
theorem Conc.imm_free {ρ : Rho} {I : Imm} {w : World} {H : AHeap} (hc : Conc ρ I w H) {b : Nat} {arr : Array Value} (h : I b = some arr) : ¬ Owned ρ H b := by
  rintro ⟨l, B, h1, h2, h3⟩
  obtain ⟨o, ho⟩ := Option.isSome_iff_exists.1 h3
  obtain ⟨B', hB', hI, _⟩ := hc.obj l o ho
  rw [h1] at hB'
  cases hB'
  rw [h2, h] at hI
  cases hI

/-- The location l holds something else now: the world differs at its block alone. -/
theorem Conc.set {ρ : Rho} {I : Imm} {w w' : World} {H : AHeap} (hc : Conc ρ I w H) {l : Nat} {B : Blk} {o o' : AObj} (hl : H.get l = some o) (hB : ρ l = some B)
    (hs : w'.heap.size = w.heap.size) (hk : ∀ k, k ≠ B.b → w'.heap[k]? = w.heap[k]?) (ho : ObjAt ρ I w' B o') (hos : w'.os = w.os) (ht : w'.tape = w.tape) (hout : w'.output = w.output) :
    Conc ρ I w' (H.set l o') ∧ Ev ρ I w H ρ I w' (H.set l o') := by
  have hsome : ∀ k, ((H.set l o').get k).isSome → (H.get k).isSome := by
    intro k hk
    by_cases e : k = l
    · subst e; simp [hl]
    · rwa [AHeap.get_set_ne H o' e] at hk
  have hfree : I B.b = none := by
    obtain ⟨B', hB', hI, _⟩ := hc.obj l o hl
    rw [hB] at hB'; cases hB'; exact hI
  refine ⟨⟨fun a b A B h1 h2 h3 h4 => hc.inj a b A B h1 h2 (hsome a h3) (hsome b h4), hc.dom, ?_, ?_⟩, ⟨fun _ _ h => h, fun _ _ h => h, hos, ht, hout, by rw [hs]; exact Nat.le_refl _, ?_, ?_, Nat.le_refl _⟩⟩
  · intro k q hq
    by_cases e : k = l
    · subst e
      rw [AHeap.get_set_same] at hq
      cases hq
      exact ⟨B, hB, hfree, ho⟩
    · rw [AHeap.get_set_ne H o' e] at hq
      obtain ⟨B', h1, h2, h3⟩ := hc.obj k q hq
      refine ⟨B', h1, h2, h3.mono (fun _ _ h => h) (fun _ _ h => h) (hk _ ?_)⟩
      intro eb
      exact e (hc.inj k l B' B h1 hB (by simp [hq]) (by simp [hl]) eb)
  · intro b arr hb
    obtain ⟨t, fz, h⟩ := hc.imm b arr hb
    refine ⟨t, fz, (hk b ?_).trans h⟩
    rintro rfl
    rw [hb] at hfree; cases hfree
  · intro b hb hn
    refine hk b ?_
    rintro rfl
    exact hn ⟨l, B, hB, rfl, by simp [hl]⟩
  · rintro b hb hn ⟨k, B', h1, h2, h3⟩
    exact hn ⟨k, B', h1, h2, hsome k h3⟩

def Rho.new (ρ : Rho) (l : Nat) (B : Blk) : Rho := fun k => if k = l then some B else ρ k

/-- A new location, over the world's newest block. -/
theorem Conc.new {ρ : Rho} {I : Imm} {w w' : World} {H : AHeap} (hc : Conc ρ I w H) {o : AObj} (sz : Nat) (hs : w'.heap.size = w.heap.size + 1) (hk : ∀ k, k < w.heap.size → w'.heap[k]? = w.heap[k]?)
    (ho : ObjAt (ρ.new H.next ⟨w.heap.size, sz⟩) I w' ⟨w.heap.size, sz⟩ o) (hos : w'.os = w.os) (ht : w'.tape = w.tape) (hout : w'.output = w.output) :
    Conc (ρ.new H.next ⟨w.heap.size, sz⟩) I w' (H.new o) ∧ Ev ρ I w H (ρ.new H.next ⟨w.heap.size, sz⟩) I w' (H.new o) := by
  have hext : ∀ l B, ρ l = some B → ρ.new H.next ⟨w.heap.size, sz⟩ l = some B := by
    intro l B h
    have := hc.dom l B h
    unfold Rho.new
    rw [if_neg (by omega)]
    exact h
  have hold : ∀ l q, l ≠ H.next → (H.new o).get l = some q → ∃ B, ρ l = some B ∧ I B.b = none ∧ ObjAt ρ I w B q := by
    intro l q hl hq
    rw [AHeap.get_new_ne H o hl] at hq
    exact hc.obj l q hq
  refine ⟨⟨?_, ?_, ?_, ?_⟩, ⟨hext, fun _ _ h => h, hos, ht, hout, by omega, fun b hb _ => hk b hb, ?_, by simp [AHeap.new]⟩⟩
  · intro l l' B B' h1 h2 h3 h4 he
    obtain ⟨q, hq⟩ := Option.isSome_iff_exists.1 h3
    obtain ⟨q', hq'⟩ := Option.isSome_iff_exists.1 h4
    by_cases e : l = H.next
    · by_cases e' : l' = H.next
      · omega
      · obtain ⟨C, hC, _, hat⟩ := hold l' q' e' hq'
        have hlt := hat.lt
        unfold Rho.new at h1 h2
        rw [if_pos e] at h1
        rw [if_neg e', hC] at h2
        cases h1; cases h2
        simp at he
        omega
    · obtain ⟨C, hC, _, hat⟩ := hold l q e hq
      have hlt := hat.lt
      unfold Rho.new at h1 h2
      rw [if_neg e, hC] at h1
      by_cases e' : l' = H.next
      · rw [if_pos e'] at h2
        cases h1; cases h2
        simp at he
        omega
      · obtain ⟨C', hC', _, _⟩ := hold l' q' e' hq'
        rw [if_neg e', hC'] at h2
        cases h1; cases h2
        rw [AHeap.get_new_ne H o e] at h3
        rw [AHeap.get_new_ne H o e'] at h4
        exact hc.inj l l' _ _ hC hC' h3 h4 he
  · intro l B h
    unfold Rho.new at h
    split at h
    · rename_i e; simp [AHeap.new, e]
    · have := hc.dom l B h; simp [AHeap.new]; omega
  · intro l q hq
    by_cases e : l = H.next
    · subst e
      rw [AHeap.get_new_same] at hq
      cases hq
      refine ⟨⟨w.heap.size, sz⟩, by simp [Rho.new], ?_, ho⟩
      cases hI : I w.heap.size with
      | none => rfl
      | some arr => have := hc.imm_lt hI; omega
    · obtain ⟨B, h1, h2, h3⟩ := hold l q e hq
      exact ⟨B, hext l B h1, h2, h3.mono hext (fun _ _ h => h) (hk _ h3.lt)⟩
  · intro b arr hb
    obtain ⟨t, fz, h⟩ := hc.imm b arr hb
    exact ⟨t, fz, (hk b (hc.imm_lt hb)).trans h⟩
  · rintro b hb hn ⟨l, B, h1, h2, h3⟩
    unfold Rho.new at h1
    split at h1
    · cases h1; simp at h2; omega
    · rename_i e
      rw [AHeap.get_new_ne H o e] at h3
      exact hn ⟨l, B, h1, h2, h3⟩

/-- A draw turns nothing. -/
theorem Conc.of_heap {ρ : Rho} {I : Imm} {w w' : World} {H : AHeap} (hc : Conc ρ I w H) (hh : w'.heap = w.heap) : Conc ρ I w' H :=
  ⟨hc.inj, hc.dom, fun l o ho => let ⟨B, h1, h2, h3⟩ := hc.obj l o ho; ⟨B, h1, h2, h3.mono (fun _ _ h => h) (fun _ _ h => h) (by rw [hh])⟩,
    fun b arr hb => by rw [hh]; exact hc.imm b arr hb⟩
theorem Ev.drew (ρ : Rho) (I : Imm) (w : World) (H : AHeap) : Ev ρ I w H ρ I w.drew H :=
  ⟨fun _ _ h => h, fun _ _ h => h, rfl, rfl, rfl, Nat.le_refl _, fun _ _ _ => rfl, fun _ _ h => h, Nat.le_refl _⟩
theorem Conc.drew {ρ : Rho} {I : Imm} {w : World} {H : AHeap} (hc : Conc ρ I w H) : Conc ρ I w.drew H := hc.of_heap rfl

/-! ### One operation -/

def Post (K : AV → AHeap → Prop) (ρ : Rho) (I : Imm) (w : World) (H : AHeap) (d : Option Tmp) (a : Act) : Act → World → Prop := fun a' w' =>
  ∃ u x ρ' I' H', a' = a.put d u ∧ K x H' ∧ CV ρ' I' x u ∧ Conc ρ' I' w' H' ∧ Ev ρ I w H ρ' I' w' H'

/-- The operation o, over the frame T and the heap H: its value and the heap behind it are as K says. -/
def AStep (P : Program) (o : Oper) (T : Fr) (H : AHeap) (K : AV → AHeap → Prop) : Prop :=
  ∀ ρ I w a, Conc ρ I w H → TV ρ I T a → ∀ Q, o.wpIn Fence.wide 0 P a w (Post K ρ I w H o.dst a) Q

theorem AStep.mono {P : Program} {o : Oper} {T : Fr} {H : AHeap} {K K' : AV → AHeap → Prop} (h : AStep P o T H K) (hk : ∀ x H', K x H' → K' x H') : AStep P o T H K' :=
  fun ρ I w a hc ht Q => Oper.wpIn_mono (fun _ _ ⟨u, x, ρ', I', H', ha, k, r⟩ => ⟨u, x, ρ', I', H', ha, hk _ _ k, r⟩) (h ρ I w a hc ht Q)

/-- An operation that is run at once and has a value. -/
theorem AStep.of_run {P : Program} {o : Oper} {T : Fr} {H : AHeap} {K : AV → AHeap → Prop}
    (h : ∀ ρ I w a, Conc ρ I w H → TV ρ I T a → ∃ u w' x ρ' I' H', (execOp a.eval o).run P w = .ok (.value u) w' ∧ K x H' ∧ CV ρ' I' x u ∧ Conc ρ' I' w' H' ∧ Ev ρ I w H ρ' I' w' H') : AStep P o T H K := by
  intro ρ I w a hc ht Q
  obtain ⟨u, w', x, ρ', I', H', hr, hk, hx, hc', ev⟩ := h ρ I w a hc ht
  refine ⟨fun _ _ => trivial, ?_⟩
  rw [Fence.wide_round, Oper.semAt_none, hr]
  exact ⟨u, x, ρ', I', H', rfl, hk, hx, hc', ev⟩

/-- The same, where nothing is written and nothing made. -/
theorem AStep.of_pure {P : Program} {o : Oper} {T : Fr} {H : AHeap} {K : AV → AHeap → Prop} (x : AV) (hk : K x H)
    (h : ∀ ρ I w a, Conc ρ I w H → TV ρ I T a → ∃ u, (execOp a.eval o).run P w = .ok (.value u) w ∧ CV ρ I x u) : AStep P o T H K :=
  .of_run fun ρ I w a hc ht => let ⟨u, hr, hx⟩ := h ρ I w a hc ht; ⟨u, w, x, ρ, I, H, hr, hk, hx, hc, .refl ρ I w H⟩

/-- The same, of an operation without a value. -/
theorem AStep.of_skip {P : Program} {o : Oper} {T : Fr} {H : AHeap} {K : AV → AHeap → Prop}
    (h : ∀ ρ I w a, Conc ρ I w H → TV ρ I T a → ∃ w' ρ' I' H', (execOp a.eval o).run P w = .ok .skip w' ∧ K .any H' ∧ Conc ρ' I' w' H' ∧ Ev ρ I w H ρ' I' w' H') : AStep P o T H K := by
  intro ρ I w a hc ht Q
  obtain ⟨w', ρ', I', H', hr, hk, hc', ev⟩ := h ρ I w a hc ht
  refine ⟨fun _ _ => trivial, ?_⟩
  rw [Fence.wide_round, Oper.semAt_none, hr]
  exact ⟨undef, .any, ρ', I', H', rfl, hk, .any _, hc', ev⟩

/-- An operation that is no defer statement goes in every kind of frame as in a function's own. -/
theorem Oper.wpIn_at {P : Program} {o : Oper} {a : Act} {w : World} {K : Act → World → Prop} {Q : Exit → Act → World → Prop} (hnd : ∀ c, o.op ≠ .defer c)
    (h : o.wpIn Fence.wide 0 P a w K Q) : o.wpIn md.F 0 P a w K Q := by
  unfold Oper.wpIn at *
  refine ⟨fun _ _ => trivial, ?_⟩
  rw [Oper.semAt_eq _ _ _ hnd] at h ⊢
  have hh := h.2
  generalize (execOp a.eval o).run P w = r at hh ⊢
  cases r with
  | ok x w' =>
    cases x <;> simp only [Oper.uponIn] at hh ⊢ <;> exact hh
  | halt x w' => cases x <;> simp only [Oper.uponIn] at hh ⊢ <;> exact hh

theorem Act.put_defers_ne (a : Act) (d : Deferred) (t : Option Tmp) (u v : Value) : ({ a with defers := d :: a.defers } : Act).put t v ≠ a.put t u := by
  intro h
  have := congrArg Act.defers h
  rw [put_defers, put_defers] at this
  have := congrArg List.length this
  simp at this

theorem AStep.at {P : Program} {o : Oper} {K : AV → AHeap → Prop} {ρ : Rho} {I : Imm} {w : World} {H : AHeap} {a : Act} (h : ∀ Q, o.wpIn Fence.wide 0 P a w (Post K ρ I w H o.dst a) Q) (Q : Exit → Act → World → Prop) :
    o.wpIn md.F 0 P a w (Post K ρ I w H o.dst a) Q := by
  refine Oper.wpIn_at (fun c hc => ?_) (h Q)
  have h0 := (h fun _ _ _ => False).2
  rw [Fence.wide_round, Oper.semAt_none] at h0
  simp only [execOp, hc, Sem.run_bind] at h0
  cases hr : (resolve a.eval c o.type).run P w with
  | ok d w' =>
    rw [hr] at h0
    simp only [Result.andThen, Sem.run_pure, Oper.uponIn] at h0
    obtain ⟨u, x, ρ', I', H', ha, _⟩ := h0
    exact Act.put_defers_ne a d o.dst u undef ha
  | halt x w' =>
    rw [hr] at h0
    cases x <;> exact h0

/-! ### A list of operations -/

def AL (md : Md) (P : Program) (ops : Array Oper) (Q : APost) (os : List Oper) (T : Fr) (H : AHeap) (n : Nat) : Prop :=
  ∀ ρ0 I0 w0 H0 ρ I w a, Ev ρ0 I0 w0 H0 ρ I w H → Conc ρ I w H → TV ρ I T a → a.tmps.size = n → DOK md ρ w H a.defers → wpListIn md.F 0 P ops (Fin md Q ρ0 I0 w0 H0 n) os a w

def dstB (o : Oper) (n : Nat) : Bool := match o.dst with | some d => decide (d < n) | none => true
theorem dstB_spec {o : Oper} {n : Nat} (h : dstB o n = true) : ∀ t, o.dst = some t → t < n := by
  intro t ht
  simp only [dstB, ht, decide_eq_true_eq] at h
  exact h

section
variable {P : Program} {ops : Array Oper} {Q : APost} {os : List Oper} {T : Fr} {H : AHeap} {n : Nat} {o : Oper}

theorem AW.region {id : Nat} (h : AL md P ops Q ops.toList T H n) : AW md P (.region id ops false) Q T H n :=
  fun ρ I w a hc ht hn hd => wpIn_region_list (h ρ I w H ρ I w a (.refl ρ I w H) hc ht hn hd)

theorem AL.nil (h : Q .normal T H) : AL md P ops Q [] T H n :=
  fun _ _ _ _ ρ I _ _ ev hc ht hn hd => ⟨T, ρ, I, H, h, hc, ht, hn, hd, ev⟩

/-- From what a step leaves, the rest of the list. -/
theorem AL.next {K : AV → AHeap → Prop} {Qc : Exit → Act → World → Prop} {a : Act} {w : World} {ρ : Rho} {I : Imm} {ρ0 : Rho} {I0 : Imm} {w0 : World} {H0 : AHeap} (hd : dstB o n = true)
    (h : AStep P o T H K) (k : ∀ x H', K x H' → AL md P ops Q os (putA T o.dst x) H' n)
    (ev : Ev ρ0 I0 w0 H0 ρ I w H) (hc : Conc ρ I w H) (ht : TV ρ I T a) (hn : a.tmps.size = n) (hde : DOK md ρ w H a.defers) : o.wpIn md.F 0 P a w (wpListIn md.F 0 P ops (Fin md Q ρ0 I0 w0 H0 n) os) Qc := by
  refine Oper.wpIn_mono ?_ (AStep.at (h ρ I w a hc ht) Qc)
  intro a' w' ⟨u, x, ρ', I', H', ha, hk, hx, hc', ev'⟩
  subst ha
  exact k x H' hk ρ0 I0 w0 H0 ρ' I' w' _ (ev.trans ev') hc' ((ht.mono ev'.rho ev'.imm).put (by rw [hn]; exact dstB_spec hd) hx) (by rw [put_size, hn]) (by rw [put_defers]; exact hde.ev ev')

theorem AL.cons {K : AV → AHeap → Prop} (hg : o.guard = none) (hd : dstB o n = true) (h : AStep P o T H K) (k : ∀ x H', K x H' → AL md P ops Q os (putA T o.dst x) H' n) : AL md P ops Q (o :: os) T H n := by
  intro ρ0 I0 w0 H0 ρ I w a ev hc ht hn hde
  unfold wpListIn
  rw [if_pos (by simp [Region.wanted, hg])]
  exact (AL.next hd h k ev hc ht hn hde)

/-- What an operation's guard yields. -/
theorem yields {ρ : Rho} {I : Imm} {a : Act} (ht : TV ρ I T a) {j d : Nat} {b : Bool} (hj : (ops[j]?).bind (·.dst) = some d) (hd : d < a.tmps.size) (hb : look T d = .v (.bool b)) : yielded ops a.tmps j = some b := by
  have h := ht d
  rw [hb, Array.getD_eq_getD_getElem?, Array.getElem?_eq_getElem hd] at h
  unfold yielded
  rw [hj]
  simp only [Option.bind_some, Array.getElem?_eq_getElem hd]
  simp only [Option.getD_some] at h
  generalize a.tmps[d] = u at h
  cases h
  rfl

theorem yields_none {ρ : Rho} {I : Imm} {a : Act} (ht : TV ρ I T a) {j d : Nat} (hj : (ops[j]?).bind (·.dst) = some d) (hb : look T d = .v undef) : yielded ops a.tmps j = none := by
  have h := ht d
  rw [hb] at h
  unfold yielded
  rw [hj]
  simp only [Option.bind_some]
  rw [Array.getD_eq_getD_getElem?] at h
  cases hg : a.tmps[d]? with
  | none => rfl
  | some u =>
    rw [hg] at h
    simp only [Option.getD_some] at h
    cases h
    rfl
/-- An operation whose guard was passed over itself. -/
theorem AL.guard_none {j d : Nat} {want : Bool} (hg : o.guard = some (j, want)) (hj : (ops[j]?).bind (·.dst) = some d) (hb : look T d = .v undef) (hd : dstB o n = true)
    (k : AL md P ops Q os (putA T o.dst (.v undef)) H n) : AL md P ops Q (o :: os) T H n := by
  intro ρ0 I0 w0 H0 ρ I w a ev hc ht hn hde
  unfold wpListIn
  rw [if_neg (by simp [Region.wanted, hg, yields_none ht hj hb])]
  exact ⟨fun _ _ => trivial, k ρ0 I0 w0 H0 ρ I w _ ev hc (ht.put (by rw [hn]; exact dstB_spec hd) (.v undef)) (by rw [put_size, hn]) (by rw [put_defers]; exact hde)⟩

/-- An operation whose guard is known to say yes, or no, or which of both is open. -/
theorem AL.guarded {K : AV → AHeap → Prop} {j d : Nat} {want b : Bool} (hg : o.guard = some (j, want)) (hj : (ops[j]?).bind (·.dst) = some d) (hdj : d < n) (hb : look T d = .v (.bool b)) (hd : dstB o n = true)
    (h : b = want → AStep P o T H K) (k : b = want → ∀ x H', K x H' → AL md P ops Q os (putA T o.dst x) H' n) (k' : b ≠ want → AL md P ops Q os (putA T o.dst (.v undef)) H n) : AL md P ops Q (o :: os) T H n := by
  intro ρ0 I0 w0 H0 ρ I w a ev hc ht hn hde
  have hy := yields ht hj (by rw [hn]; exact hdj) hb
  unfold wpListIn
  by_cases e : b = want
  · rw [if_pos (by simp [Region.wanted, hg, hy, e])]
    exact (AL.next hd (h e) (k e) ev hc ht hn hde)
  · rw [if_neg (by simp [Region.wanted, hg, hy, e])]
    exact ⟨fun _ _ => trivial, k' e ρ0 I0 w0 H0 ρ I w _ ev hc (ht.put (by rw [hn]; exact dstB_spec hd) (.v undef)) (by rw [put_size, hn]) (by rw [put_defers]; exact hde)⟩

theorem AL.guard_yes {K : AV → AHeap → Prop} {j d : Nat} {want : Bool} (hg : o.guard = some (j, want)) (hj : (ops[j]?).bind (·.dst) = some d) (hdj : d < n) (hb : look T d = .v (.bool want)) (hd : dstB o n = true)
    (h : AStep P o T H K) (k : ∀ x H', K x H' → AL md P ops Q os (putA T o.dst x) H' n) : AL md P ops Q (o :: os) T H n :=
  .guarded hg hj hdj hb hd (fun _ => h) (fun _ => k) (fun e => (e rfl).elim)

theorem AL.guard_no {j d : Nat} {want b : Bool} (hg : o.guard = some (j, want)) (hj : (ops[j]?).bind (·.dst) = some d) (hdj : d < n) (hb : look T d = .v (.bool b)) (hne : b ≠ want) (hd : dstB o n = true)
    (k : AL md P ops Q os (putA T o.dst (.v undef)) H n) : AL md P ops Q (o :: os) T H n :=
  .guarded (K := fun _ _ => False) hg hj hdj hb hd (fun e => (hne e).elim) (fun e => (hne e).elim) (fun _ => k)

/-- A guarded operation over a guard that yields nothing (it was passed over itself). -/
theorem AL.guard_maybe {x : AV} {j d : Nat} {want b : Bool} (hg : o.guard = some (j, want)) (hj : (ops[j]?).bind (·.dst) = some d) (hdj : d < n) (hb : look T d = .v (.bool b)) (hd : dstB o n = true)
    (h : b = want → AStep P o T H (fun y H' => y = x ∧ H' = H)) (k : AL md P ops Q os (putA T o.dst (.cond (b == want) x)) H n) : AL md P ops Q (o :: os) T H n := by
  refine .guarded (K := fun y H' => y = .cond (b == want) x ∧ H' = H) hg hj hdj hb hd (fun e => ?_) (fun _ => by rintro _ _ ⟨rfl, rfl⟩; exact k) (fun e => ?_)
  · intro ρ I w a hc ht Qc
    refine Oper.wpIn_mono ?_ (h e ρ I w a hc ht Qc)
    rintro a' w' ⟨u, y, ρ', I', H', ha, ⟨rfl, rfl⟩, hx, hc', ev⟩
    exact ⟨u, _, ρ', I', _, ha, ⟨rfl, rfl⟩, .cond (fun _ => hx) (fun hf => by simp [e] at hf), hc', ev⟩
  · intro ρ0 I0 w0 H0 ρ I w a ev hc ht hn hde
    refine k ρ0 I0 w0 H0 ρ I w a ev hc (fun i => ?_) hn hde
    have hi := ht i
    cases hdst : o.dst with
    | none => rw [hdst] at hi; exact hi
    | some t =>
      rw [hdst] at hi
      simp only [putA, look_cons] at hi ⊢
      split
      · rename_i e1
        rw [if_pos e1] at hi
        generalize a.tmps.getD i undef = u at hi ⊢
        refine .cond (fun hb => ?_) (fun _ => by cases hi; rfl)
        have : b = want := by simpa using hb
        exact (e this).elim
      · rename_i hne; rw [if_neg hne] at hi; exact hi

/-- An operation whose guard is open, and may have been passed over itself. -/
theorem AL.guard_maybe2 {x : AV} {j d : Nat} {want b c : Bool} (hg : o.guard = some (j, want)) (hj : (ops[j]?).bind (·.dst) = some d) (hdj : d < n) (hb : look T d = .cond c (.v (.bool b))) (hd : dstB o n = true)
    (h : c = true → b = want → AStep P o T H (fun y H' => y = x ∧ H' = H)) (k : AL md P ops Q os (putA T o.dst (.cond (c && (b == want)) x)) H n) : AL md P ops Q (o :: os) T H n := by
  intro ρ0 I0 w0 H0 ρ I w a ev hc ht hn hde
  unfold wpListIn
  have hno : (c && (b == want)) = false → yielded ops a.tmps j ≠ some want → AL md P ops Q os (putA T o.dst (.cond (c && (b == want)) x)) H n → wpListIn md.F 0 P ops (Fin md Q ρ0 I0 w0 H0 n) os (a.put o.dst undef) w := by
    intro hf _ k
    exact k ρ0 I0 w0 H0 ρ I w _ ev hc (ht.put (by rw [hn]; exact dstB_spec hd) (.cond (fun h => by rw [hf] at h; cases h) (fun _ => rfl))) (by rw [put_size, hn]) (by rw [put_defers]; exact hde)
  cases c with
  | false =>
    have hy : yielded ops a.tmps j = none := by
      have h1 := ht d
      rw [hb] at h1
      cases h1 with
      | cond _ h0 => exact yields_none (T := (d, .v undef) :: T) (ρ := ρ) (I := I) (fun i => by
          rw [look_cons]
          split
          · rename_i q; subst q; rw [h0 rfl]; exact .v _
          · exact ht i) hj (by simp [look_cons])
    rw [if_neg (by simp [Region.wanted, hg, hy])]
    exact ⟨fun _ _ => trivial, hno rfl (by simp [hy]) k⟩
  | true =>
    have hy : yielded ops a.tmps j = some b := by
      have h1 := ht d
      rw [hb] at h1
      cases h1 with
      | cond h1 _ => exact yields (T := (d, .v (.bool b)) :: T) (ρ := ρ) (I := I) (fun i => by
          rw [look_cons]
          split
          · rename_i q; subst q; exact h1 rfl
          · exact ht i) hj (by rw [hn]; exact hdj) (by simp [look_cons])
    by_cases hbw : b = want
    · rw [if_pos (by simp [Region.wanted, hg, hy, hbw])]
      refine (AL.next (K := fun y H' => y = .cond (true && (b == want)) x ∧ H' = H) hd ?_ (by rintro _ _ ⟨rfl, rfl⟩; exact k) ev hc ht hn hde)
      intro ρ I w a hc ht Qc
      refine Oper.wpIn_mono ?_ (h rfl hbw ρ I w a hc ht Qc)
      rintro a' w' ⟨u, y, ρ', I', H', ha, ⟨rfl, rfl⟩, hx, hc', ev⟩
      exact ⟨u, _, ρ', I', _, ha, ⟨rfl, rfl⟩, .cond (fun _ => hx) (fun hf => by simp [hbw] at hf), hc', ev⟩
    · rw [if_neg (by simp [Region.wanted, hg, hy, hbw])]
      exact ⟨fun _ _ => trivial, hno (by simp [hbw]) (by simp [hy, hbw]) k⟩
end
end Go.Ax
