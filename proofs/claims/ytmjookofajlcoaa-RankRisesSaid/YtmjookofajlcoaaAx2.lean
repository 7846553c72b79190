/- The abstract layer, part 2: the judgement on code, and its rules for control. -/
import Derived.Test.YtmjookofajlcoaaAx1
import Derived.Deep.LoopGhost
import Derived.OrdersIn
import Derived.TacticsIn
import Derived.RangeFuncRecord
namespace Go.Ax

abbrev APost := Exit → Fr → AHeap → Prop

/-- In which kind of frame: a round's of a range over a function, or a function's own; with which deferred calls. -/
structure Md where
  r : Option Nat := none
  base : Nat := 0
def Md.F (md : Md) : Fence := { Fence.wide with round := md.r }
variable {md : Md}

/-- The deferred calls of a frame are marks of loops that were ranged over a function, and nothing else. -/
def DOK (md : Md) (ρ : Rho) (w : World) (H : AHeap) (ds : List Deferred) : Prop :=
  md.base ≤ w.heap.size ∧ ds.Nodup ∧ ∀ d ∈ ds, ∃ D, d = { target := .collected D, args := #[] } ∧ md.base ≤ D ∧ w.heap[D]? = some (.deferred (some [])) ∧ ¬ Owned ρ H D
theorem DOK.nil {ρ : Rho} {w : World} {H : AHeap} (h : md.base ≤ w.heap.size) : DOK md ρ w H [] := ⟨h, List.nodup_nil, fun _ h => by cases h⟩
theorem DOK.ev {ρ : Rho} {I : Imm} {w : World} {H : AHeap} {ρ' : Rho} {I' : Imm} {w' : World} {H' : AHeap} {ds : List Deferred} (h : DOK md ρ w H ds) (e : Ev ρ I w H ρ' I' w' H') : DOK md ρ' w' H' ds := by
  refine ⟨Nat.le_trans h.1 e.size, h.2.1, fun d hd => ?_⟩
  obtain ⟨D, rfl, h1, h2, h3⟩ := h.2.2 d hd
  have hD : D < w.heap.size := (Array.getElem?_eq_some_iff.1 h2).1
  exact ⟨D, rfl, h1, (e.blk D hD h3).trans h2, e.own D hD h3⟩

/-- The concrete post of an abstract one. -/
def Fin (md : Md) (Q : APost) (ρ : Rho) (I : Imm) (w : World) (H : AHeap) (n : Nat) : Exit → Act → World → Prop := fun e a' w' =>
  ∃ T' ρ' I' H', Q e T' H' ∧ Conc ρ' I' w' H' ∧ TV ρ' I' T' a' ∧ a'.tmps.size = n ∧ DOK md ρ' w' H' a'.defers ∧ Ev ρ I w H ρ' I' w' H'

/-- From every state that the frame T and the heap H describe, the code ends as Q says. n: how many slots the frame has. -/
def AW (md : Md) (P : Program) (c : Code) (Q : APost) (T : Fr) (H : AHeap) (n : Nat) : Prop :=
  ∀ ρ I w a, Conc ρ I w H → TV ρ I T a → a.tmps.size = n → DOK md ρ w H a.defers → c.wpIn md.F 0 P (Fin md Q ρ I w H n) a w

/-- A loop whose rounds are counted by a number beside the frame. -/
theorem wpIn_loop_ghost {F : Fence} {m : Nat} {P : Program} {Q : Exit → Act → World → Prop} {a : Act} {w : World} {c : Code} (I : Nat → Act → World → Prop) (n₀ : Nat) (h₀ : I n₀ a w)
    (round : ∀ n a w, I n a w → c.wpIn F m P (Exit.then (fun a' w' => ∃ n', n' < n ∧ I n' a' w') Q) a w) : (Code.loop c).wpIn F m P Q a w := by
  refine wpIn_loop (fun a w => ∃ n, I n a w) (fun a w => leastOf (fun n => I n a w)) ⟨n₀, h₀⟩ ?_
  intro a w hI
  refine wpIn_mono (round _ a w (leastOf_spec hI).1) ?_
  intro e a' w' hq
  cases e with
  | normal =>
    obtain ⟨n', hlt, hI'⟩ := hq
    exact show (∃ n, I n a' w') ∧ leastOf (fun n => I n a' w') < leastOf (fun n => I n a w) from ⟨⟨n', hI'⟩, Nat.lt_of_le_of_lt ((leastOf_spec ⟨n', hI'⟩).2 n' hI') hlt⟩
  | exit id => exact hq
  | goto l => exact hq
  | ret => exact hq
  | panic c => exact hq
  | outgrown => exact hq

theorem Fin.of_ev {Q : APost} {ρ ρ1 : Rho} {I I1 : Imm} {w w1 : World} {H H1 : AHeap} {n : Nat} (e : Ev ρ I w H ρ1 I1 w1 H1) {x : Exit} {a : Act} {w2 : World}
    (h : Fin md Q ρ1 I1 w1 H1 n x a w2) : Fin md Q ρ I w H n x a w2 := by
  obtain ⟨T', ρ', I', H', hq, hc, ht, hs, hd, he⟩ := h
  exact ⟨T', ρ', I', H', hq, hc, ht, hs, hd, e.trans he⟩

section
variable {P : Program} {Q : APost} {T : Fr} {H : AHeap} {n : Nat}

theorem AW.mono {c : Code} {Q' : APost} (h : AW md P c Q T H n) (hq : ∀ e T H, Q e T H → Q' e T H) : AW md P c Q' T H n :=
  fun ρ I w a hc ht hn hd => wpIn_mono (h ρ I w a hc ht hn hd) fun _ _ _ ⟨T', ρ', I', H', q, r⟩ => ⟨T', ρ', I', H', hq _ _ _ q, r⟩

theorem AW.skip (h : Q .normal T H) : AW md P .skip Q T H n :=
  fun ρ I w _ hc ht hn hd => wpIn_skip ⟨T, ρ, I, H, h, hc, ht, hn, hd, .refl ρ I w H⟩
theorem AW.ret (h : Q .ret T H) : AW md P .ret Q T H n :=
  fun ρ I w _ hc ht hn hd => wpIn_ret ⟨T, ρ, I, H, h, hc, ht, hn, hd, .refl ρ I w H⟩
theorem AW.exit {id : Nat} (h : Q (.exit id) T H) : AW md P (.exit id) Q T H n :=
  fun ρ I w _ hc ht hn hd => wpIn_exit ⟨T, ρ, I, H, h, hc, ht, hn, hd, .refl ρ I w H⟩

/-- The post of the first of two. -/
def AThen (next : Fr → AHeap → Prop) (Q : APost) : APost
  | .normal, T, H => next T H
  | e, T, H => Q e T H

theorem AW.seq {x y : Code} (h : AW md P x (AThen (fun T H => AW md P y Q T H n) Q) T H n) : AW md P (.seq x y) Q T H n := by
  intro ρ I w a hc ht hn hd
  refine wpIn_seq (wpIn_mono (h ρ I w a hc ht hn hd) ?_)
  intro e a' w' ⟨T', ρ', I', H', q, hc', ht', hn', hd', ev⟩
  cases e with
  | normal => exact wpIn_mono (q ρ' I' w' a' hc' ht' hn' hd') fun _ _ _ f => f.of_ev ev
  | exit id => exact ⟨T', ρ', I', H', q, hc', ht', hn', hd', ev⟩
  | goto l => exact ⟨T', ρ', I', H', q, hc', ht', hn', hd', ev⟩
  | ret => exact ⟨T', ρ', I', H', q, hc', ht', hn', hd', ev⟩
  | panic c => exact ⟨T', ρ', I', H', q, hc', ht', hn', hd', ev⟩
  | outgrown => exact ⟨T', ρ', I', H', q, hc', ht', hn', hd', ev⟩

theorem AW.cond {c : Operand} {x y : Code} (b : Bool) (hb : aev T c = .v (.bool b)) (h1 : b = true → AW md P x Q T H n) (h2 : b = false → AW md P y Q T H n) : AW md P (.cond c x y) Q T H n := by
  intro ρ I w a hc ht hn hd
  have hv := aev_cv ht c
  rw [hb] at hv
  have he : a.eval c = .bool b := by
    generalize a.eval c = u at hv
    cases hv
    rfl
  cases b with
  | true => exact wpIn_cond_true he (h1 rfl ρ I w a hc ht hn hd)
  | false => exact wpIn_cond_false he (h2 rfl ρ I w a hc ht hn hd)

def AInBlock (id : Nat) (Q : APost) : APost
  | .exit id', T, H => if id' = id then Q .normal T H else Q (.exit id') T H
  | e, T, H => Q e T H

theorem AW.block {id : Nat} {c : Code} (h : AW md P c (AInBlock id Q) T H n) : AW md P (.block id c) Q T H n := by
  intro ρ I w a hc ht hn hd
  refine wpIn_block (wpIn_mono (h ρ I w a hc ht hn hd) ?_)
  intro e a' w' ⟨T', ρ', I', H', q, hc', ht', hn', hd', ev⟩
  cases e with
  | exit id' =>
    simp only [AInBlock] at q
    simp only [Exit.inBlock]
    split
    · rename_i h; rw [if_pos h] at q; exact ⟨T', ρ', I', H', q, hc', ht', hn', hd', ev⟩
    · rename_i h; rw [if_neg h] at q; exact ⟨T', ρ', I', H', q, hc', ht', hn', hd', ev⟩
  | normal => exact ⟨T', ρ', I', H', q, hc', ht', hn', hd', ev⟩
  | goto l => exact ⟨T', ρ', I', H', q, hc', ht', hn', hd', ev⟩
  | ret => exact ⟨T', ρ', I', H', q, hc', ht', hn', hd', ev⟩
  | panic c => exact ⟨T', ρ', I', H', q, hc', ht', hn', hd', ev⟩
  | outgrown => exact ⟨T', ρ', I', H', q, hc', ht', hn', hd', ev⟩

/-- A loop: what holds of the frame and the heap at a round's head, at k rounds to go (or more). -/
theorem AW.loop {c : Code} (Inv : Nat → Fr → AHeap → Prop) (k0 : Nat) (h0 : Inv k0 T H)
    (round : ∀ k T H, Inv k T H → AW md P c (AThen (fun T' H' => ∃ k', k' < k ∧ Inv k' T' H') Q) T H n) : AW md P (.loop c) Q T H n := by
  intro ρ I w a hc ht hn hd
  refine wpIn_loop_ghost (fun k a' w' => ∃ T' ρ' I' H', Inv k T' H' ∧ Conc ρ' I' w' H' ∧ TV ρ' I' T' a' ∧ a'.tmps.size = n ∧ DOK md ρ' w' H' a'.defers ∧ Ev ρ I w H ρ' I' w' H') k0
    ⟨T, ρ, I, H, h0, hc, ht, hn, hd, .refl ρ I w H⟩ ?_
  intro k a1 w1 ⟨T1, ρ1, I1, H1, hi, hc1, ht1, hn1, hd1, ev1⟩
  refine wpIn_mono (round k T1 H1 hi ρ1 I1 w1 a1 hc1 ht1 hn1 hd1) ?_
  intro e a' w' ⟨T', ρ', I', H', q, hc', ht', hn', hd', ev⟩
  cases e with
  | normal =>
    obtain ⟨k', hk, hi'⟩ := q
    exact ⟨k', hk, T', ρ', I', H', hi', hc', ht', hn', hd', ev1.trans ev⟩
  | exit id => exact ⟨T', ρ', I', H', q, hc', ht', hn', hd', ev1.trans ev⟩
  | goto l => exact ⟨T', ρ', I', H', q, hc', ht', hn', hd', ev1.trans ev⟩
  | ret => exact ⟨T', ρ', I', H', q, hc', ht', hn', hd', ev1.trans ev⟩
  | panic c => exact ⟨T', ρ', I', H', q, hc', ht', hn', hd', ev1.trans ev⟩
  | outgrown => exact ⟨T', ρ', I', H', q, hc', ht', hn', hd', ev1.trans ev⟩

/-! ### Saying less -/

/-- What a says, b says too. -/
def SubV (a b : AV) : Prop := ∀ ρ I u, CV ρ I a u → CV ρ I b u
theorem SubV.refl (a : AV) : SubV a a := fun _ _ _ h => h
theorem SubV.any (a : AV) : SubV a .any := fun _ _ u _ => .any u
theorem SubV.nil_vec : SubV (.v (.slice none 0 0)) (.vec 0 []) := fun _ _ _ h => by cases h; exact .vec0
theorem SubV.trans {a b c : AV} (h : SubV a b) (k : SubV b c) : SubV a c := fun ρ I u hu => k ρ I u (h ρ I u hu)

/-- Each slot that T' names, T says it too. -/
def SubT (T T' : Fr) : Prop := ∀ p ∈ T', SubV (look T p.1) p.2

theorem TV.sub {ρ : Rho} {I : Imm} {T T' : Fr} {a : Act} (h : TV ρ I T a) (hs : SubT T T') : TV ρ I T' a := by
  intro i
  induction T' with
  | nil => exact .any _
  | cons p r ih =>
    obtain ⟨j, x⟩ := p
    simp only [look_cons]
    split
    · rename_i e
      subst e
      exact hs (i, x) (by simp) _ _ _ (h i)
    · exact ih fun q hq => hs q (by simp [hq])

theorem SubT.nil (T : Fr) : SubT T [] := fun _ h => by cases h
theorem SubT.cons {T T' : Fr} {j : Nat} {x : AV} (h : SubV (look T j) x) (hs : SubT T T') : SubT T ((j, x) :: T') := by
  intro p hp
  rcases List.mem_cons.1 hp with rfl | hp
  · exact h
  · exact hs p hp
theorem SubT.cons_eq {T T' : Fr} {j : Nat} {x : AV} (h : look T j = x) (hs : SubT T T') : SubT T ((j, x) :: T') := SubT.cons (h ▸ SubV.refl _) hs

theorem AW.sub {c : Code} {T' : Fr} (hs : SubT T T') (h : AW md P c Q T' H n) : AW md P c Q T H n :=
  fun ρ I w a hc ht hn hd => h ρ I w a hc (ht.sub hs) hn hd

/-- A part of a heap. -/
structure SubH (H H' : AHeap) : Prop where
  get : ∀ l o, H'.get l = some o → H.get l = some o
  next : H'.next = H.next

theorem Conc.sub {ρ : Rho} {I : Imm} {w : World} {H H' : AHeap} (h : Conc ρ I w H) (hs : SubH H H') : Conc ρ I w H' where
  inj l l' B B' h1 h2 h3 h4 := by
    obtain ⟨o, ho⟩ := Option.isSome_iff_exists.1 h3
    obtain ⟨o', ho'⟩ := Option.isSome_iff_exists.1 h4
    exact h.inj l l' B B' h1 h2 (by simp [hs.get l o ho]) (by simp [hs.get l' o' ho'])
  dom l B hb := by rw [hs.next]; exact h.dom l B hb
  obj l o ho := h.obj l o (hs.get l o ho)
  imm := h.imm

theorem Owned.sub {ρ : Rho} {H H' : AHeap} (hs : SubH H H') {b : Nat} (h : Owned ρ H' b) : Owned ρ H b := by
  obtain ⟨l, B, h1, h2, h3⟩ := h
  obtain ⟨o, ho⟩ := Option.isSome_iff_exists.1 h3
  exact ⟨l, B, h1, h2, by simp [hs.get l o ho]⟩

theorem Ev.sub {ρ : Rho} {I : Imm} {w : World} {H H' : AHeap} (hs : SubH H H') : Ev ρ I w H ρ I w H' :=
  ⟨fun _ _ h => h, fun _ _ h => h, rfl, rfl, rfl, Nat.le_refl _, fun _ _ _ => rfl, fun _ _ h h' => h (h'.sub hs), by rw [hs.next]; exact Nat.le_refl _⟩

theorem AW.subH {c : Code} {H' : AHeap} (hs : SubH H H') (h : AW md P c Q T H' n) : AW md P c Q T H n :=
  fun ρ I w a hc ht hn hd => wpIn_mono (h ρ I w a (hc.sub hs) ht hn (hd.ev (Ev.sub (I := I) hs))) fun _ _ _ f => f.of_ev (Ev.sub hs)

/-- A piece of code on its own: what it leaves of the frame and the heap is said anew. -/
theorem AW.cut {x y : Code} (R : Fr → AHeap → Prop) (h : AW md P x (AThen R fun _ _ _ => False) T H n) (k : ∀ T H, R T H → AW md P y Q T H n) : AW md P (.seq x y) Q T H n :=
  .seq (h.mono fun e T H q => by cases e <;> first | exact k T H q | exact q.elim)

end

/-! ### Calls -/

/-- A call with these abstract arguments over this heap returns; R says what. -/
def ACalls (P : Program) (f : FuncId) (args : List AV) (H : AHeap) (R : AV → AHeap → Prop) : Prop :=
  ∀ ρ I w vs, Conc ρ I w H → CVs ρ I args vs → Calls P f vs.toArray w fun e w' =>
    ∃ u r ρ' I' H', e = .returned u ∧ R r H' ∧ CV ρ' I' r u ∧ Conc ρ' I' w' H' ∧ Ev ρ I w H ρ' I' w' H'

theorem ACalls.mono {P : Program} {f : FuncId} {args : List AV} {H : AHeap} {R R' : AV → AHeap → Prop} (h : ACalls P f args H R) (hr : ∀ r H', R r H' → R' r H') : ACalls P f args H R' :=
  fun ρ I w vs hc ha => (h ρ I w vs hc ha).mono fun _ _ ⟨u, r, ρ', I', H', he, q, rest⟩ => ⟨u, r, ρ', I', H', he, hr _ _ q, rest⟩

/-- The frame that a call begins with. -/
def initT (args : List AV) : Fr := args.zipIdx.map fun p => (p.2, p.1)

theorem look_initFrom (args : List AV) (k i : Nat) : look ((args.zipIdx k).map fun p => (p.2, p.1)) i = if k ≤ i then args.getD (i - k) .any else .any := by
  induction args generalizing k with
  | nil => simp [look]
  | cons a r ih =>
    simp only [List.zipIdx_cons, List.map_cons, look_cons]
    by_cases h : i = k
    · subst h; simp
    · rw [if_neg h, ih (k + 1)]
      by_cases h1 : k + 1 ≤ i
      · rw [if_pos h1, if_pos (by omega)]
        obtain ⟨j, hj⟩ : ∃ j, i - k = j + 1 := ⟨i - k - 1, by omega⟩
        rw [hj, show i - (k + 1) = j from by omega]
        simp
      · rw [if_neg h1, if_neg (by omega)]

theorem look_init (args : List AV) (i : Nat) : look (initT args) i = args.getD i .any := by
  unfold initT
  rw [look_initFrom]
  simp

theorem initT_tv {ρ : Rho} {I : Imm} {args : List AV} {vs : List Value} (h : CVs ρ I args vs) (m : Nat) : TV ρ I (initT args) { tmps := vs.toArray ++ Array.replicate m undef, defers := [] } := by
  intro i
  rw [look_init]
  by_cases hi : i < args.length
  · have hv : i < vs.length := by rw [h.1]; exact hi
    have := h.2 i args[i] vs[i] (by simp [hi]) (by simp [hv])
    simpa [List.getD, hi, Array.getD_eq_getD_getElem?, Array.getElem?_append, hv] using this
  · simp only [List.getD, List.getElem?_eq_none (Nat.le_of_not_lt hi), Option.getD_none]
    exact .any _

end Go.Ax
