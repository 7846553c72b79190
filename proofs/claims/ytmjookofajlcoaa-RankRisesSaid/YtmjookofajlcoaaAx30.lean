/- The abstract layer, part 30: a range over a function: what an iterator is, a call of yield, the statement itself. -/
import Derived.Test.YtmjookofajlcoaaAx29
namespace Go.Ax
open Go
variable {md : Md}

/-- A call of yield(x): a round of the loop whose record lies at L. -/
def AYields (P : Program) (L : Nat) (x : AV) (H : AHeap) (R : AV → AHeap → Prop) : Prop :=
  ∀ ρ I w B u, Conc ρ I w H → ρ L = some B → CV ρ I x u →
    ∃ fn tmps assign body, (Instr.yield B.b #[u]).run P w = .ok (.round B.b fn tmps assign body) w ∧
      RoundIn Fence.wide 0 P B.b fn tmps assign body w fun e w' => ∃ v r ρ' I' H', e = .returned v ∧ R r H' ∧ CV ρ' I' r v ∧ Conc ρ' I' w' H' ∧ Ev ρ I w H ρ' I' w' H'

theorem AStep.yield {P : Program} {o : Oper} {T : Fr} {H : AHeap} {x y : Operand} {ats : Array TypeId} {L : Nat} {K : AV → AHeap → Prop} (ho : o.op = .call { callee := .value x, args := #[y], argTypes := ats }) (hx : aev T x = .yld L)
    (h : AYields P L (aev T y) H K) : AStep P o T H K := by
  intro ρ I w a hc ht Q
  have hv := aev_eq ht hx
  obtain ⟨B, hB, he⟩ : ∃ B, ρ L = some B ∧ a.eval x = .func (.yield B.b) #[] #[] := by
    generalize a.eval x = u at hv
    cases hv with
    | yld hB => exact ⟨_, hB, rfl⟩
  obtain ⟨fn, tmps, assign, body, hy, hr⟩ := h ρ I w B (a.eval y) hc hB (aev_cv ht y)
  have hrun : (execOp a.eval o).run P w = .ok (.round B.b fn tmps assign body) w := by
    simp only [execOp, ho, resolve, he, Deferred.ofValue, Sem.run_bind, Sem.run_pure, Result.andThen, invoke]
    simpa using hy
  refine ⟨fun _ _ => trivial, ?_⟩
  rw [Fence.wide_round, Oper.semAt_none, hrun]
  refine ⟨fun hh => (by simp [Fence.wide] at hh), hr.mono ?_⟩
  rintro e w' ⟨v, r, ρ', I', H', rfl, hk, hcv, hc', ev⟩
  exact ⟨v, r, ρ', I', H', rfl, hk, hcv, hc', ev⟩

/-- All that was there is as it was, but for what pr names. -/
def Same (pr : Nat → Prop) (H1 H2 : AHeap) : Prop := (∀ q, q < H1.next → ¬ pr q → H2.get q = H1.get q) ∧ H1.next ≤ H2.next
/-- What pr names is as it was. -/
def Held (pr : Nat → Prop) (H1 H2 : AHeap) : Prop := (∀ q, pr q → q < H1.next → H2.get q = H1.get q) ∧ H1.next ≤ H2.next

/-- An iterator: called with a yield it hands on the values xs one by one, till all have come, or a round says no. It leans on what lies at the locations that pr names; no round touches those. -/
def ASeq (P : Program) (gf : FuncId) (lb : List AV) (xs : List AV) (pr : Nat → Prop) (H0 : AHeap) : Prop :=
  (∀ q, pr q → q < H0.next) ∧
  ∀ (L : Nat) (J : Nat → AHeap → Prop) (Jx : AHeap → Prop) (H : AHeap), L < H.next → ¬ pr L → H0.next ≤ H.next → (∀ q, pr q → H.get q = H0.get q) →
    (∀ i H1 H2, J i H1 → Same pr H1 H2 → J i H2) → (∀ H1 H2, Jx H1 → Same pr H1 H2 → Jx H2) →
    (∀ i H1 (hi : i < xs.length), J i H1 → H.next ≤ H1.next → AYields P L xs[i] H1 fun r H' => Held pr H1 H' ∧ ((r = .v (.bool true) ∧ J (i + 1) H') ∨ (r = .v (.bool false) ∧ Jx H'))) →
    J 0 H → ACalls P gf (.yld L :: lb) H fun _ H' => J xs.length H' ∨ Jx H'

theorem ASeq.later {P : Program} {gf : FuncId} {lb xs : List AV} {pr : Nat → Prop} {H0 H1 : AHeap} (h : ASeq P gf lb xs pr H0) (hn : H0.next ≤ H1.next) (hp : ∀ q, pr q → H1.get q = H0.get q) : ASeq P gf lb xs pr H1 :=
  ⟨fun q hq => Nat.lt_of_lt_of_le (h.1 q hq) hn, fun L J Jx H hL hpL hH hpr => h.2 L J Jx H hL hpL (Nat.le_trans hn hH) fun q hq => (hpr q hq).trans (hp q hq)⟩

/-- How a round may be left: what is to hold then. -/
def RoundPost (pr : Nat → Prop) (H1 : AHeap) (Jn : AHeap → Prop) (Jx : Exit → AHeap → Prop) : APost := fun e _ H' => Held pr H1 H' ∧
  match e with
  | .normal => Jn H'
  | .ret => Jx .ret H'
  | .exit id => Jx (.exit id) H'
  | _ => False

/-- The jump that a round has left behind it. -/
def jumpOf : Exit → Option Code
  | .ret => some .ret
  | .exit id => some (.exit id)
  | _ => none

theorem heap_alloc_old (w : World) (o : Obj) (k : Nat) (h : k < w.heap.size) : (w.alloc o).heap[k]? = w.heap[k]? := by
  show (w.heap.push o)[k]? = _
  rw [Array.getElem?_push_lt h]; simp [h]

theorem Conc.alloc_alien {ρ : Rho} {I : Imm} {w : World} {H : AHeap} (hc : Conc ρ I w H) (o : Obj) : Conc ρ I (w.alloc o) H where
  inj := hc.inj
  dom := hc.dom
  obj l x h := by
    obtain ⟨B, hB, hIB, hO⟩ := hc.obj l x h
    exact ⟨B, hB, hIB, hO.mono (fun _ _ h => h) (fun _ _ h => h) (heap_alloc_old w o _ hO.lt)⟩
  imm b arr h := by
    obtain ⟨t, fz, hb⟩ := hc.imm b arr h
    exact ⟨t, fz, (heap_alloc_old w o _ (Array.getElem?_eq_some_iff.1 hb).1).trans hb⟩

theorem Ev.alloc_alien {ρ : Rho} {I : Imm} {w : World} {H : AHeap} (hc : Conc ρ I w H) (o : Obj) : Ev ρ I w H ρ I (w.alloc o) H where
  rho _ _ h := h
  imm _ _ h := h
  os := rfl
  tape := rfl
  output := rfl
  size := by rw [World.size_alloc]; omega
  blk b hb _ := heap_alloc_old w o _ hb
  own _ _ h := h
  next := Nat.le_refl _

/-- A location that names no part of the heap takes its block up again. -/
theorem Conc.own {ρ : Rho} {I : Imm} {w w' : World} {H : AHeap} (hc : Conc ρ I w H) {L : Nat} {B : Blk} (hB : ρ L = some B) (hno : ¬ Owned ρ H B.b) (hk : ∀ k, k ≠ B.b → w'.heap[k]? = w.heap[k]?) {o : AObj} (hI : I B.b = none) (ho : ObjAt ρ I w' B o) : Conc ρ I w' (H.set L o) where
  inj l l' B1 B2 h1 h2 h3 h4 he := by
    by_cases e : l = L
    · by_cases e' : l' = L
      · rw [e, e']
      · rw [AHeap.get_set_ne _ _ e'] at h4
        subst e; rw [hB] at h1; cases h1
        exact (hno ⟨l', B2, h2, he.symm, h4⟩).elim
    · rw [AHeap.get_set_ne _ _ e] at h3
      by_cases e' : l' = L
      · subst e'; rw [hB] at h2; cases h2
        exact (hno ⟨l, B1, h1, he, h3⟩).elim
      · rw [AHeap.get_set_ne _ _ e'] at h4
        exact hc.inj l l' B1 B2 h1 h2 h3 h4 he
  dom := hc.dom
  obj l x h := by
    by_cases e : l = L
    · subst e; rw [AHeap.get_set_same] at h; cases h
      exact ⟨B, hB, hI, ho⟩
    · rw [AHeap.get_set_ne _ _ e] at h
      obtain ⟨B1, hB1, hI1, hO⟩ := hc.obj l x h
      refine ⟨B1, hB1, hI1, hO.mono (fun _ _ h => h) (fun _ _ h => h) (hk _ fun e => hno ⟨l, B1, hB1, e, by simp [h]⟩)⟩
  imm b arr h := by
    obtain ⟨t, fz, hb⟩ := hc.imm b arr h
    exact ⟨t, fz, (hk b fun e => by subst e; rw [hI] at h; cases h).trans hb⟩

theorem Conc.unowned {ρ : Rho} {I : Imm} {w : World} {H : AHeap} (hc : Conc ρ I w H) {L : Nat} {B : Blk} {o : AObj} (hL : H.get L = some o) (hB : ρ L = some B) : ¬ Owned ρ (H.del L) B.b := by
  rintro ⟨l, B1, h1, h2, h3⟩
  by_cases e : l = L
  · subst e; rw [AHeap.get_del_same] at h3; cases h3
  · rw [AHeap.get_del_ne _ e] at h3
    exact e (hc.inj l L B1 B h1 hB h3 (by simp [hL]) h2)

theorem Conc.no_imm {ρ : Rho} {I : Imm} {w : World} {H : AHeap} (hc : Conc ρ I w H) {b : Nat} {o : Obj} (hb : w.heap[b]? = some o) (ho : ∀ arr t fz, o ≠ .cells arr t fz) : I b = none := by
  cases h : I b with
  | none => rfl
  | some arr =>
    obtain ⟨t, fz, hh⟩ := hc.imm b arr h
    rw [hb] at hh
    exact (ho arr t fz (Option.some.inj hh)).elim

theorem DOK.putObj {ρ : Rho} {w : World} {H : AHeap} {ds : List Deferred} (h : DOK md ρ w H ds) {b : Nat} {o : Obj} (hb : ∀ x, w.heap[b]? ≠ some (.deferred x)) : DOK md ρ (w.putObj b o) H ds := by
  refine ⟨by rw [World.putObj_size]; exact h.1, h.2.1, fun d hd => ?_⟩
  obtain ⟨D, rfl, h1, h2, h3⟩ := h.2.2 d hd
  exact ⟨D, rfl, h1, (World.putObj_heap_other fun e => hb _ (e ▸ h2)).trans h2, h3⟩

def Fr.top (T : Fr) : Nat := T.foldr (fun p m => max (p.1 + 1) m) 0
theorem look_top (T : Fr) : ∀ i, Fr.top T ≤ i → look T i = .any := by
  induction T with
  | nil => intro i _; rfl
  | cons p r ih =>
    intro i hi
    obtain ⟨j, x⟩ := p
    have : max (j + 1) (Fr.top r) ≤ i := hi
    rw [look_cons, if_neg (by omega)]
    exact ih i (by omega)
def Fr.cs (T : Fr) : List AV := (List.range (Fr.top T)).map (look T)
theorem TV.cs {ρ : Rho} {I : Imm} {T : Fr} {a : Act} : TV ρ I T a ↔ ∀ (i : Nat) x, (Fr.cs T)[i]? = some x → CV ρ I x (a.tmps.getD i undef) := by
  constructor
  · intro h i x hx
    simp only [Fr.cs, List.getElem?_map] at hx
    cases hr : (List.range (Fr.top T))[i]? with
    | none => rw [hr] at hx; cases hx
    | some j =>
      rw [hr] at hx
      simp only [Option.map_some, Option.some.injEq] at hx
      obtain ⟨_, hj⟩ := List.getElem?_eq_some_iff.1 hr
      simp at hj
      subst hj; subst hx
      exact h i
  · intro h i
    by_cases hi : i < Fr.top T
    · exact h i _ (by simp [Fr.cs, hi])
    · rw [look_top T i (by omega)]; exact .any _
end Go.Ax
