/- The abstract layer, part 12: a region that draws its order. Its operations are run in the order of the text; those that change the heap stand in one forced order; each other one is shown to do the same at every heap at which it may be run. Then every order serves. -/
import Derived.Test.YtmjookofajlcoaaAx11
namespace Go.Ax
variable {md : Md}

/-- One operation, guarded or not: its value is x, the heap behind it H1. -/
def GStep (P : Program) (ops : Array Oper) (n : Nat) (o : Oper) (T : Fr) (H : AHeap) (x : AV) (H1 : AHeap) : Prop :=
  ∀ ρ I w a, Conc ρ I w H → TV ρ I T a → a.tmps.size = n →
    if Region.wanted o (yielded ops a.tmps) then ∀ Q, o.wpIn Fence.wide 0 P a w (Post (fun y H' => y = x ∧ H' = H1) ρ I w H o.dst a) Q else H1 = H ∧ CV ρ I x undef

section
variable {P : Program} {ops : Array Oper} {n : Nat} {o : Oper} {T : Fr} {H H1 : AHeap} {x : AV}

theorem GStep.plain (hg : o.guard = none) (h : AStepD P o T H x H1) : GStep P ops n o T H x H1 := by
  intro ρ I w a hc ht _
  rw [if_pos (by simp [Region.wanted, hg])]
  exact h ρ I w a hc ht
theorem GStep.yes {j e : Nat} {want b : Bool} (hg : o.guard = some (j, want)) (hj : (ops[j]?).bind (·.dst) = some e) (he : Nat.blt e n = true) (hb : look T e = .v (.bool b)) (hbw : b = want) (h : AStepD P o T H x H1) : GStep P ops n o T H x H1 := by
  intro ρ I w a hc ht hn
  have hy := yields ht hj (by rw [hn]; exact Eq.mp Nat.blt_eq he) hb
  rw [if_pos (by simp [Region.wanted, hg, hy, hbw])]
  exact h ρ I w a hc ht
theorem GStep.no {j e : Nat} {want b : Bool} (hg : o.guard = some (j, want)) (hj : (ops[j]?).bind (·.dst) = some e) (he : Nat.blt e n = true) (hb : look T e = .v (.bool b)) (hbw : b = !want) : GStep P ops n o T H (.v undef) H := by
  intro ρ I w a hc ht hn
  have hy := yields ht hj (by rw [hn]; exact Eq.mp Nat.blt_eq he) hb
  rw [if_neg (by rw [hbw] at hy; cases want <;> simp [Region.wanted, hg, hy])]
  exact ⟨rfl, .v _⟩
/-- Whose guard is open, and may have been passed over itself. -/
theorem GStep.may2 {j e : Nat} {want b c : Bool} (hg : o.guard = some (j, want)) (hj : (ops[j]?).bind (·.dst) = some e) (he : Nat.blt e n = true) (hb : look T e = .cond c (.v (.bool b))) (h : c = true → b = want → AStepD P o T H x H) : GStep P ops n o T H (.cond (c && (b == want)) x) H := by
  intro ρ I w a hc ht hn
  cases c with
  | false =>
    have hy : yielded ops a.tmps j = none := by
      have h1 := ht e
      rw [hb] at h1
      cases h1 with
      | cond _ h0 => exact yields_none (T := (e, .v undef) :: T) (ρ := ρ) (I := I) (fun i => by
          rw [look_cons]
          split
          · rename_i q; subst q; rw [h0 rfl]; exact .v _
          · exact ht i) hj (by simp [look_cons])
    rw [if_neg (by simp [Region.wanted, hg, hy])]
    exact ⟨rfl, .cond (fun hb => by simp at hb) (fun _ => rfl)⟩
  | true =>
    have hy : yielded ops a.tmps j = some b := by
      have h1 := ht e
      rw [hb] at h1
      cases h1 with
      | cond h1 _ => exact yields (T := (e, .v (.bool b)) :: T) (ρ := ρ) (I := I) (fun i => by
          rw [look_cons]
          split
          · rename_i q; subst q; exact h1 rfl
          · exact ht i) hj (by rw [hn]; exact Eq.mp Nat.blt_eq he) (by simp [look_cons])
    by_cases hbw : b = want
    · rw [if_pos (by simp [Region.wanted, hg, hy, hbw])]
      intro Q
      refine Oper.wpIn_mono ?_ (h rfl hbw ρ I w a hc ht Q)
      rintro a' w' ⟨u, y, ρ', I', H', ha, ⟨rfl, rfl⟩, hx, hc', ev⟩
      exact ⟨u, _, ρ', I', _, ha, ⟨rfl, rfl⟩, .cond (fun _ => hx) (fun hf => by simp [hbw] at hf), hc', ev⟩
    · rw [if_neg (by simp [Region.wanted, hg, hy, hbw])]
      exact ⟨rfl, .cond (fun hb => (hbw (by simpa using hb)).elim) (fun _ => rfl)⟩
/-- Whose guard was passed over itself. -/
theorem GStep.none {j e : Nat} {want : Bool} (hg : o.guard = some (j, want)) (hj : (ops[j]?).bind (·.dst) = some e) (hb : look T e = .v undef) : GStep P ops n o T H (.v undef) H := by
  intro ρ I w a hc ht hn
  rw [if_neg (by simp [Region.wanted, hg, yields_none ht hj hb])]
  exact ⟨rfl, .v _⟩
theorem GStep.may {j e : Nat} {want b : Bool} (hg : o.guard = some (j, want)) (hj : (ops[j]?).bind (·.dst) = some e) (he : Nat.blt e n = true) (hb : look T e = .v (.bool b)) (h : b = want → AStepD P o T H x H) : GStep P ops n o T H (.cond (b == want) x) H := by
  intro ρ I w a hc ht hn
  have hy := yields ht hj (by rw [hn]; exact Eq.mp Nat.blt_eq he) hb
  by_cases hbw : b = want
  · rw [if_pos (by simp [Region.wanted, hg, hy, hbw])]
    intro Q
    refine Oper.wpIn_mono ?_ (h hbw ρ I w a hc ht Q)
    rintro a' w' ⟨u, y, ρ', I', H', ha, ⟨rfl, rfl⟩, hx, hc', ev⟩
    exact ⟨u, _, ρ', I', _, ha, ⟨rfl, rfl⟩, .cond (fun _ => hx) (fun hf => by simp [hbw] at hf), hc', ev⟩
  · rw [if_neg (by simp [Region.wanted, hg, hy, hbw])]
    exact ⟨rfl, .cond (fun hb => (hbw (by simpa using hb)).elim) (fun _ => rfl)⟩
end

/-- All that stands ahead of each operation. -/
def ancStep (acc : List (List Nat)) (o : Oper) : List Nat :=
  (o.after.toList.flatMap fun e => if Region.binds .any e then e.on :: acc.getD e.on [] else []).eraseDups
def ancL : List Oper → List (List Nat) → List (List Nat)
  | [], acc => acc
  | o :: os, acc => ancL os (acc ++ [ancStep acc o])

theorem ancL_spec : ∀ (os : List Oper) (acc : List (List Nat)), (∀ i, i < acc.length → (ancL os acc)[i]? = acc[i]?) ∧
    ∀ (i : Nat) o, os[i]? = some o → ∀ j ∈ (ancL os acc).getD (acc.length + i) [], ∃ e ∈ o.after.toList, Region.binds .any e = true ∧ (e.on = j ∨ j ∈ (ancL os acc).getD e.on [])
  | [], acc => ⟨fun i _ => rfl, fun i o h => by simp at h⟩
  | o :: os, acc => by
    obtain ⟨h1, h2⟩ := ancL_spec os (acc ++ [ancStep acc o])
    have h3 : ∀ i, i < acc.length → (ancL os (acc ++ [ancStep acc o]))[i]? = acc[i]? := fun i hi => by
      rw [h1 i (by simp; omega), List.getElem?_append_left hi]
    refine ⟨fun i hi => h3 i hi, fun i o' ho j hj => ?_⟩
    simp only [ancL] at hj ⊢
    match i, ho with
    | 0, ho =>
      simp only [List.getElem?_cons_zero, Option.some.injEq] at ho
      subst ho
      rw [List.getD_eq_getElem?_getD, Nat.add_zero, h1 acc.length (by simp), List.getElem?_append_right (Nat.le_refl _)] at hj
      simp only [Nat.sub_self, List.getElem?_cons_zero, Option.getD_some, ancStep, List.mem_eraseDups, List.mem_flatMap] at hj
      obtain ⟨e, he, hj⟩ := hj
      split at hj
      · rename_i hbd
        refine ⟨e, he, hbd, ?_⟩
        rcases List.mem_cons.1 hj with rfl | hj
        · exact .inl rfl
        · right
          by_cases hlt : e.on < acc.length
          · rw [List.getD_eq_getElem?_getD] at hj ⊢
            rw [h3 _ hlt]; exact hj
          · rw [List.getD_eq_getElem?_getD, List.getElem?_eq_none (by omega)] at hj; simp at hj
      · cases hj
    | i + 1, ho =>
      have := h2 i o' (by simpa using ho) j
      rw [show (acc ++ [ancStep acc o]).length + i = acc.length + (i + 1) by simp; omega] at this
      exact this hj

def anc (ops : Array Oper) (i : Nat) : List Nat := (ancL ops.toList []).getD i []
theorem anc_spec {ops : Array Oper} {i : Nat} {o : Oper} (ho : ops[i]? = some o) {j : Nat} (hj : j ∈ anc ops i) : ∃ e ∈ o.after.toList, Region.binds .any e = true ∧ (e.on = j ∨ j ∈ anc ops e.on) := by
  have := (ancL_spec ops.toList []).2 i o (by simpa using ho) j
  simpa [anc] using this (by simpa [anc] using hj)

/-- The frame that the first operations leave, in the order of the text. -/
def frameAt (T : Fr) : List Oper → List AV → Fr
  | [], _ => T
  | _, [] => T
  | o :: os, v :: vs => frameAt (putA T o.dst v) os vs

/-- A frame cut down to some slots. -/
def restr (L : List Nat) (T : Fr) : Fr := L.map fun s => (s, look T s)

theorem look_restr {L : List Nat} {T : Fr} (s : Nat) : look (restr L T) s = if s ∈ L then look T s else .any := by
  induction L with
  | nil => simp [restr, look]
  | cons a r ih =>
    simp only [restr, List.map_cons, look_cons]
    by_cases h : s = a
    · subst h; simp
    · rw [if_neg h]
      have : look (List.map (fun s => (s, look T s)) r) s = look (restr r T) s := rfl
      rw [this, ih]
      simp [h]

/-- The last writer of a slot among the first operations, if any. -/
theorem look_frameAt (T : Fr) (s : Nat) : ∀ (os : List Oper) (vs : List AV), vs.length = os.length →
    ((∀ (i : Nat) o, os[i]? = some o → o.dst ≠ some s) ∧ look (frameAt T os vs) s = look T s) ∨
    ∃ (i : Nat) (o : Oper), os[i]? = some o ∧ o.dst = some s ∧ (∀ (j : Nat) o', i < j → os[j]? = some o' → o'.dst ≠ some s) ∧ look (frameAt T os vs) s = vs.getD i .any
  | [], vs, _ => .inl ⟨fun i o h => by simp at h, by simp [frameAt]⟩
  | o :: os, [], h => by simp at h
  | o :: os, v :: vs, h => by
    simp only [frameAt]
    rcases look_frameAt (putA T o.dst v) s os vs (by simpa using h) with ⟨h1, h2⟩ | ⟨i, o', h1, h2, h3, h4⟩
    · by_cases hd : o.dst = some s
      · refine .inr ⟨0, o, rfl, hd, fun j o' hj ho' => ?_, ?_⟩
        · obtain ⟨q, rfl⟩ : ∃ q, j = q + 1 := ⟨j - 1, by omega⟩
          exact h1 q o' (by simpa using ho')
        · rw [h2, hd]
          simp [putA, look_cons]
      · refine .inl ⟨fun i o' ho' => ?_, ?_⟩
        · match i, ho' with
          | 0, ho' => simp only [List.getElem?_cons_zero, Option.some.injEq] at ho'; subst ho'; exact hd
          | i + 1, ho' => exact h1 i o' (by simpa using ho')
        · rw [h2]
          cases hdd : o.dst with
          | none => rfl
          | some d =>
            simp only [putA, look_cons]
            rw [if_neg]
            rintro rfl
            exact hd hdd
    · refine .inr ⟨i + 1, o', by simpa using h1, h2, fun j o'' hj ho'' => ?_, by simpa using h4⟩
      obtain ⟨q, rfl⟩ : ∃ q, j = q + 1 := ⟨j - 1, by omega⟩
      exact h3 q o'' (by omega) (by simpa using ho'')

/-- What the kernel is asked of such a region. -/
def notSelect (o : Oper) : Bool := match o.op with | .select .. => false | _ => true
def pairB (ops : Array Oper) (i : Nat) (o : Oper) (m : Nat) : Bool :=
  match (ops[m]?).bind (·.dst) with
  | none => true
  | some d => (!(o.looksAt ops).contains d && o.dst != some d) || m == i || (Nat.blt m i && (anc ops i).contains m) || (Nat.blt i m && (anc ops m).contains i)
def opB (ops : Array Oper) (n i : Nat) : Bool :=
  match ops[i]? with
  | none => false
  | some o => (o.after.toList.all fun e => !Region.binds .any e || Nat.blt e.on i) && dstB o n && (List.range ops.size).all fun m => pairB ops i o m
def chainB (ops : Array Oper) : List Nat → Bool
  | a :: b :: r => (anc ops b).contains a && chainB ops (b :: r)
  | _ => true
def drawB (ops : Array Oper) (n : Nat) (effs : List Nat) : Bool :=
  ((List.range ops.size).all fun i => opB ops n i) && chainB ops effs && effs.all fun e => Nat.blt e ops.size
/-- May operation i be run behind k of the effects? -/
def mayB (ops : Array Oper) (effs : List Nat) (i k : Nat) : Bool :=
  effs.zipIdx.all fun (e, j) => (!(anc ops i).contains e || Nat.blt j k) && (!(anc ops e).contains i || Nat.ble k j)
def coverB (ops : Array Oper) (effs : List Nat) (obs : List (Nat × Nat)) : Bool :=
  (List.range ops.size).all fun i => (List.range (effs.length + 1)).all fun k =>
    (match effs.idxOf? i with | some j => k != j | none => !mayB ops effs i k) || obs.contains (i, k)

def AllP {α : Type} (f : α → Prop) : List α → Prop
  | [] => True
  | [x] => f x
  | x :: y :: r => f x ∧ AllP f (y :: r)
theorem AllP.of_mem {α : Type} {f : α → Prop} : ∀ {l : List α}, AllP f l → ∀ x ∈ l, f x
  | [], _, x, hx => by cases hx
  | [a], h, x, hx => by simp at hx; subst hx; exact h
  | a :: b :: r, h, x, hx => by
    rcases List.mem_cons.1 hx with rfl | hx
    · exact h.1
    · exact AllP.of_mem h.2 x hx

def Ob (P : Program) (ops : Array Oper) (n : Nat) (T : Fr) (vs : List AV) (effs : List Nat) (hs : List AHeap) (p : Nat × Nat) : Prop :=
  match ops[p.1]? with
  | none => True
  | some o => GStep P ops n o (restr (o.looksAt ops) (frameAt T (ops.toList.take p.1) vs)) (hs.getD p.2 AHeap.empty) (vs.getD p.1 .any) (hs.getD (bif effs.contains p.1 then p.2 + 1 else p.2) AHeap.empty)

section
variable {P : Program} {ops : Array Oper} {n : Nat} {T : Fr} {H : AHeap} {vs : List AV} {effs : List Nat} {hs : List AHeap}

def LD (listed : Array Bool) (i : Nat) : Prop := listed.getD i false = true

/-- What holds of a state in which the operations 'listed' have been run, k effects among them. -/
structure Mid (ops : Array Oper) (T : Fr) (vs : List AV) (effs : List Nat) (hs : List AHeap) (listed : Array Bool) (k : Nat) (ρ : Rho) (I : Imm) (a : Act) (w : World) : Prop where
  size : listed.size = ops.size
  closed : ∀ (i : Nat) o, LD listed i → ops[i]? = some o → ∀ e ∈ o.after, Region.binds .any e = true → LD listed e.on
  pre : ∀ (j : Nat) e, effs[j]? = some e → (LD listed e ↔ j < k)
  kle : k ≤ effs.length
  conc : Conc ρ I w (hs.getD k AHeap.empty)
  written : ∀ (s i : Nat) o, LD listed i → ops[i]? = some o → o.dst = some s → (∀ (i' : Nat) o', LD listed i' → ops[i']? = some o' → o'.dst = some s → i' ≤ i) → CV ρ I (vs.getD i .any) (a.tmps.getD s undef)
  kept : ∀ s, (∀ (i : Nat) o, LD listed i → ops[i]? = some o → o.dst ≠ some s) → CV ρ I (look T s) (a.tmps.getD s undef)

theorem Mid.up {listed : Array Bool} {k : Nat} {ρ : Rho} {I : Imm} {a : Act} {w : World} (m : Mid ops T vs effs hs listed k ρ I a w) (hfw : ∀ (i : Nat) o, ops[i]? = some o → ∀ e ∈ o.after, Region.binds .any e = true → e.on < i) :
    ∀ (i : Nat) o, ops[i]? = some o → (∀ e ∈ o.after, Region.binds .any e = true → LD listed e.on) → ∀ j ∈ anc ops i, LD listed j := by
  intro i
  induction i using Nat.strongRecOn with
  | _ i ih =>
    intro o ho hp j hj
    obtain ⟨e, he, hb, h⟩ := anc_spec ho hj
    have he' : e ∈ o.after := by simpa using he
    have hl := hp e he' hb
    rcases h with rfl | h
    · exact hl
    · have hlt := hfw i o ho e he' hb
      have hos : e.on < ops.size := by have := (Array.getElem?_eq_some_iff.1 ho).1; omega
      exact ih e.on hlt ops[e.on] (by simp [hos]) (m.closed e.on _ hl (by simp [hos])) j h

theorem LD_set {listed : Array Bool} {i j : Nat} (hi : i < listed.size) : LD (listed.setIfInBounds i true) j ↔ j = i ∨ LD listed j := by
  unfold LD
  rw [Array.getD_eq_getD_getElem?, Array.getElem?_setIfInBounds, Array.getD_eq_getD_getElem?]
  by_cases h : i = j
  · subst h; simp [hi]
  · rw [if_neg h]
    constructor
    · exact .inr
    · rintro (rfl | h')
      · exact (h rfl).elim
      · exact h'

structure Fits (ops : Array Oper) (n : Nat) (effs : List Nat) : Prop where
  fw : ∀ (i : Nat) o, ops[i]? = some o → ∀ e ∈ o.after, Region.binds .any e = true → e.on < i
  dst : ∀ (i : Nat) o, ops[i]? = some o → dstB o n = true
  pair : ∀ (i : Nat) o, ops[i]? = some o → ∀ (m d : Nat) om, ops[m]? = some om → om.dst = some d → (d ∈ o.looksAt ops ∨ o.dst = some d) → m = i ∨ (m < i ∧ m ∈ anc ops i) ∨ (i < m ∧ i ∈ anc ops m)
  chain : ∀ (j : Nat) a b, effs[j]? = some a → effs[j + 1]? = some b → a ∈ anc ops b
  lt : ∀ e ∈ effs, e < ops.size

theorem chainB_spec : ∀ {effs : List Nat}, chainB ops effs = true → ∀ (j : Nat) a b, effs[j]? = some a → effs[j + 1]? = some b → a ∈ anc ops b
  | [], _, j, a, b, h, _ => by simp at h
  | [x], _, j, a, b, _, h => by simp at h
  | x :: y :: r, h, j, a, b, h1, h2 => by
    simp only [chainB, Bool.and_eq_true, List.contains_iff_mem] at h
    match j, h1, h2 with
    | 0, h1, h2 => simp at h1 h2; subst h1; subst h2; exact h.1
    | j + 1, h1, h2 => exact chainB_spec h.2 j a b (by simpa using h1) (by simpa using h2)

theorem drawB_spec (h : drawB ops n effs = true) : Fits ops n effs := by
  simp only [drawB, Bool.and_eq_true, List.all_eq_true, List.mem_range] at h
  obtain ⟨⟨h1, h2⟩, h3⟩ := h
  have hop : ∀ (i : Nat) o, ops[i]? = some o → ((o.after.toList.all fun e => !Region.binds .any e || Nat.blt e.on i) && dstB o n && (List.range ops.size).all fun m => pairB ops i o m) = true := by
    intro i o ho
    have := h1 i (Array.getElem?_eq_some_iff.1 ho).1
    simpa [opB, ho] using this
  refine ⟨fun i o ho e he hb => ?_, fun i o ho => ?_, fun i o ho m d om hm hd hl => ?_, chainB_spec h2, fun e he => Eq.mp Nat.blt_eq (h3 e he)⟩
  · have := hop i o ho
    simp only [Bool.and_eq_true, List.all_eq_true, Bool.or_eq_true, Bool.not_eq_true'] at this
    rcases this.1.1 e (by simpa using he) with h | h
    · rw [hb] at h; cases h
    · exact Eq.mp Nat.blt_eq h
  · have := hop i o ho
    simp only [Bool.and_eq_true] at this
    exact this.1.2
  · have := hop i o ho
    simp only [Bool.and_eq_true, List.all_eq_true, List.mem_range] at this
    have hp := this.2 m (Array.getElem?_eq_some_iff.1 hm).1
    simp only [pairB, hm, Option.bind_some, hd, Bool.or_eq_true, Bool.and_eq_true, Bool.not_eq_true', List.contains_iff_mem, beq_iff_eq] at hp
    rcases hp with ((hp | hp) | hp) | hp
    · exfalso
      rcases hl with hl | hl
      · have := hp.1; rw [← Bool.not_eq_true, List.contains_iff_mem] at this; exact this hl
      · have := hp.2; rw [hl] at this; simp at this
    · exact .inl hp
    · exact .inr (.inl ⟨Eq.mp Nat.blt_eq hp.1, hp.2⟩)
    · exact .inr (.inr ⟨Eq.mp Nat.blt_eq hp.1, hp.2⟩)

/-- The slots that an operation looks at hold what the text's order says. -/
theorem Mid.slot {listed : Array Bool} {k : Nat} {ρ : Rho} {I : Imm} {a : Act} {w : World} (m : Mid ops T vs effs hs listed k ρ I a w) (F : Fits ops n effs) (hvs : vs.length = ops.size) {i : Nat} {o : Oper} (ho : ops[i]? = some o)
    (hp : ∀ e ∈ o.after, Region.binds .any e = true → LD listed e.on) (hni : ¬ LD listed i) : TV ρ I (restr (o.looksAt ops) (frameAt T (ops.toList.take i) vs)) a := by
  intro s
  rw [look_restr]
  split
  · rename_i hs
    have hanc := m.up F.fw i o ho hp
    have hil := (Array.getElem?_eq_some_iff.1 ho).1
    have hother : ∀ (i' : Nat) o', LD listed i' → ops[i']? = some o' → o'.dst = some s → i' < i := by
      intro i' o' hl ho' hd
      rcases F.pair i o ho i' s o' ho' hd (.inl hs) with h | h | h
      · subst h; exact (hni hl).elim
      · exact h.1
      · exfalso
        refine hni (m.up F.fw i' o' ho' (m.closed i' o' hl ho') i h.2)
    have hfr : frameAt T (ops.toList.take i) vs = frameAt T (ops.toList.take i) (vs.take i) := by
      have : ∀ (os : List Oper) (vs : List AV) (T : Fr), frameAt T os vs = frameAt T os (vs.take os.length) := by
        intro os
        induction os with
        | nil => intro vs T; simp [frameAt]
        | cons o os ih =>
          intro vs T
          cases vs with
          | nil => simp [frameAt]
          | cons v vs => simp only [List.length_cons, List.take_succ_cons, frameAt]; exact ih vs _
      rw [this, List.length_take, Array.length_toList, Nat.min_eq_left (by omega)]
    rw [hfr]
    rcases look_frameAt T s (ops.toList.take i) (vs.take i) (by simp [hvs]) with ⟨h1, h2⟩ | ⟨q, oq, h1, h2, h3, h4⟩
    · rw [h2]
      refine m.kept s fun i' o' hl ho' hd => ?_
      have hlt := hother i' o' hl ho' hd
      refine h1 i' o' ?_ hd
      rw [List.getElem?_take, if_pos hlt]; simpa using ho'
    · rw [h4]
      have hqi : q < i := by
        have := (List.getElem?_eq_some_iff.1 h1).1
        simp at this; omega
      have hoq : ops[q]? = some oq := by rw [List.getElem?_take, if_pos hqi] at h1; simpa using h1
      have hlq : LD listed q := by
        rcases F.pair i o ho q s oq hoq h2 (.inl hs) with h | h | h
        · omega
        · exact hanc q h.2
        · omega
      have := m.written s q oq hlq hoq h2 fun i' o' hl ho' hd => by
        have hlt := hother i' o' hl ho' hd
        refine Nat.le_of_not_lt fun hlt2 => h3 i' o' hlt2 ?_ hd
        rw [List.getElem?_take, if_pos hlt]; simpa using ho'
      rw [List.getD_eq_getElem?_getD, List.getElem?_take, if_pos hqi, ← List.getD_eq_getElem?_getD]
      exact this
  · exact .any _

/-- What the obligations give for an operation that is run behind k effects. -/
def Need (P : Program) (ops : Array Oper) (n : Nat) (T : Fr) (vs : List AV) (effs : List Nat) (hs : List AHeap) : Prop :=
  ∀ (i : Nat) o k, ops[i]? = some o → k ≤ effs.length → (∀ (j : Nat), effs[j]? = some i → k = j) → (∀ (j : Nat) e, effs[j]? = some e → e ∈ anc ops i → j < k) → (∀ (j : Nat) e, effs[j]? = some e → i ∈ anc ops e → k ≤ j) →
    GStep P ops n o (restr (o.looksAt ops) (frameAt T (ops.toList.take i) vs)) (hs.getD k AHeap.empty) (vs.getD i .any) (hs.getD (bif effs.contains i then k + 1 else k) AHeap.empty)

theorem Fits.nodup (F : Fits ops n effs) : ∀ (j j' : Nat) e, effs[j]? = some e → effs[j']? = some e → j = j' := by
  have hlt : ∀ i j, j ∈ anc ops i → j < i := by
    intro i
    induction i using Nat.strongRecOn with
    | _ i ih =>
      intro j hj
      cases ho : ops[i]? with
      | none =>
        have : anc ops i = [] := by
          have hsz : ops.toList.length ≤ i := by simpa using Array.getElem?_eq_none_iff.1 ho
          have hlen : ∀ (os : List Oper) acc, (ancL os acc).length = acc.length + os.length := by
            intro os
            induction os with
            | nil => intro acc; simp [ancL]
            | cons o os ih => intro acc; simp only [ancL, ih, List.length_append, List.length_cons, List.length_nil]; omega
          rw [anc, List.getD_eq_getElem?_getD, List.getElem?_eq_none (by rw [hlen]; simpa using hsz)]
          rfl
        rw [this] at hj; cases hj
      | some o =>
        obtain ⟨e, he, hb, h⟩ := anc_spec ho hj
        have := F.fw i o ho e (by simpa using he) hb
        rcases h with rfl | h
        · exact this
        · have := ih e.on this j h; omega
  have hstep : ∀ (d j : Nat) a b, effs[j]? = some a → effs[j + d + 1]? = some b → a < b := by
    intro d
    induction d with
    | zero => intro j a b h1 h2; exact hlt b a (F.chain j a b h1 h2)
    | succ d ih =>
      intro j a b h1 h2
      have hl : j + d + 1 < effs.length := by have := (List.getElem?_eq_some_iff.1 h2).1; omega
      have := ih j a effs[j + d + 1] h1 (by simp [hl])
      have := hlt b _ (F.chain (j + d + 1) effs[j + d + 1] b (by simp [hl]) (by rw [← h2]; congr 1))
      omega
  intro j j' e h1 h2
  rcases Nat.lt_trichotomy j j' with h | h | h
  · have := hstep (j' - j - 1) j e e h1 (by rw [← h2]; congr 1; omega); omega
  · exact h
  · have := hstep (j - j' - 1) j' e e h2 (by rw [← h1]; congr 1; omega); omega

theorem Mid.run {listed : Array Bool} {k : Nat} {ρ : Rho} {I : Imm} {a : Act} {w : World} (m : Mid ops T vs effs hs listed k ρ I a w) (F : Fits ops n effs) (N : Need P ops n T vs effs hs) (hvs : vs.length = ops.size) {i : Nat} {o : Oper} (ho : ops[i]? = some o)
    (hp : ∀ e ∈ o.after, Region.binds .any e = true → LD listed e.on) (hni : ¬ LD listed i) (hn : a.tmps.size = n) (hd : DOK md ρ w (hs.getD k AHeap.empty) a.defers) {Q : Exit → Act → World → Prop} {ρ0 : Rho} {I0 : Imm} {w0 : World} {H0 : AHeap} (ev : Ev ρ0 I0 w0 H0 ρ I w (hs.getD k AHeap.empty)) :
    wpOpIn md.F 0 P ops Q i (fun a' w' => ∃ k' ρ' I', Mid ops T vs effs hs (listed.setIfInBounds i true) k' ρ' I' a' w' ∧ a'.tmps.size = n ∧ DOK md ρ' w' (hs.getD k' AHeap.empty) a'.defers ∧ Ev ρ0 I0 w0 H0 ρ' I' w' (hs.getD k' AHeap.empty)) a w := by
  have hil : i < listed.size := by rw [m.size]; exact (Array.getElem?_eq_some_iff.1 ho).1
  have hanc := m.up F.fw i o ho hp
  have h1 : ∀ (j : Nat), effs[j]? = some i → k = j := by
    intro j hj
    have hnot : ¬ j < k := fun h => hni ((m.pre j i hj).2 h)
    rcases Nat.eq_zero_or_pos j with rfl | hpos
    · omega
    · obtain ⟨q, rfl⟩ : ∃ q, j = q + 1 := ⟨j - 1, by omega⟩
      have hq : q < effs.length := by have := (List.getElem?_eq_some_iff.1 hj).1; omega
      have := (m.pre q effs[q] (by simp [hq])).1 (hanc _ (F.chain q effs[q] i (by simp [hq]) hj))
      omega
  have h2 : ∀ (j : Nat) e, effs[j]? = some e → e ∈ anc ops i → j < k := fun j e hj he => (m.pre j e hj).1 (hanc e he)
  have h3 : ∀ (j : Nat) e, effs[j]? = some e → i ∈ anc ops e → k ≤ j := by
    intro j e hj he
    refine Nat.le_of_not_lt fun hlt => hni ?_
    have hle := (m.pre j e hj).2 hlt
    have hel := F.lt e (List.mem_of_getElem? hj)
    exact m.up F.fw e ops[e] (by simp [hel]) (m.closed e _ hle (by simp [hel])) i he
  have hg := N i o k ho m.kle h1 h2 h3 ρ I w a m.conc (m.slot F hvs ho hp hni) hn
  -- what holds behind it
  have next : ∀ (u : Value) (ρ' : Rho) (I' : Imm) (w' : World), CV ρ' I' (vs.getD i .any) u → Conc ρ' I' w' (hs.getD (bif effs.contains i then k + 1 else k) AHeap.empty) → Ev ρ I w (hs.getD k AHeap.empty) ρ' I' w' (hs.getD (bif effs.contains i then k + 1 else k) AHeap.empty) →
      ∃ k' ρ' I', Mid ops T vs effs hs (listed.setIfInBounds i true) k' ρ' I' (a.put o.dst u) w' ∧ (a.put o.dst u).tmps.size = n ∧ DOK md ρ' w' (hs.getD k' AHeap.empty) (a.put o.dst u).defers ∧ Ev ρ0 I0 w0 H0 ρ' I' w' (hs.getD k' AHeap.empty) := by
    intro u ρ' I' w' hx hc' ev'
    refine ⟨bif effs.contains i then k + 1 else k, ρ', I', ⟨by simp [m.size], ?_, ?_, ?_, hc', ?_, ?_⟩, by rw [put_size, hn], by rw [put_defers]; exact hd.ev ev', ev.trans ev'⟩
    · intro i' o' hl ho' e he hb
      rw [LD_set hil] at hl ⊢
      rcases hl with rfl | hl
      · rw [ho] at ho'; cases ho'; exact .inr (hp e he hb)
      · exact .inr (m.closed i' o' hl ho' e he hb)
    · intro j e hj
      rw [LD_set hil]
      by_cases hie : i ∈ effs
      · obtain ⟨q, hq⟩ := List.mem_iff_getElem?.1 hie
        have hkq := h1 q hq
        rw [show effs.contains i = true from List.contains_iff_mem.2 hie]
        simp only [cond_true]
        constructor
        · rintro (rfl | h)
          · have := F.nodup j q e hj hq; omega
          · have := (m.pre j e hj).1 h; omega
        · intro h
          by_cases hjk : j = k
          · left; subst hjk; rw [hkq, hq] at hj; cases hj; rfl
          · exact .inr ((m.pre j e hj).2 (by omega))
      · rw [show effs.contains i = false from by rw [← Bool.not_eq_true, List.contains_iff_mem]; exact hie]
        simp only [cond_false]
        rw [← m.pre j e hj]
        constructor
        · rintro (rfl | h)
          · exact (hie (List.mem_of_getElem? hj)).elim
          · exact h
        · exact .inr
    · by_cases hie : i ∈ effs
      · obtain ⟨q, hq⟩ := List.mem_iff_getElem?.1 hie
        have hkq := h1 q hq
        have := (List.getElem?_eq_some_iff.1 hq).1
        rw [show effs.contains i = true from List.contains_iff_mem.2 hie]
        simp only [cond_true]; omega
      · rw [show effs.contains i = false from by rw [← Bool.not_eq_true, List.contains_iff_mem]; exact hie]
        simp only [cond_false]; exact m.kle
    · -- written
      intro s i' o' hl ho' hd' hmax
      rw [LD_set hil] at hl
      have hmax' : ∀ (q : Nat) oq, LD listed q → ops[q]? = some oq → oq.dst = some s → q ≤ i' := fun q oq hq hoq hdq => hmax q oq ((LD_set hil).2 (.inr hq)) hoq hdq
      by_cases hds : o.dst = some s
      · -- i writes s: it is the last
        have hii : i' = i := by
          have h1 := hmax i o ((LD_set hil).2 (.inl rfl)) ho hds
          rcases hl with rfl | hl
          · rfl
          · rcases F.pair i o ho i' s o' ho' hd' (.inr hds) with h | h | h
            · exact h
            · omega
            · exfalso
              exact hni (m.up F.fw i' o' ho' (m.closed i' o' hl ho') i h.2)
        subst hii
        have hsz : s < a.tmps.size := by rw [hn]; exact dstB_spec (F.dst i' o ho) s hds
        rw [hds]
        simp only [Act.put]
        rw [Array.getD_eq_getD_getElem?, Array.getElem?_setIfInBounds]
        simp [hsz]
        simpa [List.getD_eq_getElem?_getD] using hx
      · have hold : (a.put o.dst u).tmps.getD s undef = a.tmps.getD s undef := by
          cases hdd : o.dst with
          | none => rfl
          | some d =>
            simp only [Act.put]
            rw [Array.getD_eq_getD_getElem?, Array.getElem?_setIfInBounds, if_neg, ← Array.getD_eq_getD_getElem?]
            rintro rfl
            exact hds hdd
        rw [hold]
        rcases hl with rfl | hl
        · rw [ho] at ho'; cases ho'; exact (hds hd').elim
        · exact ev'.cv (m.written s i' o' hl ho' hd' hmax')
    · -- kept
      intro s hno
      have hds : o.dst ≠ some s := hno i o ((LD_set hil).2 (.inl rfl)) ho
      have hold : (a.put o.dst u).tmps.getD s undef = a.tmps.getD s undef := by
        cases hdd : o.dst with
        | none => rfl
        | some d =>
          simp only [Act.put]
          rw [Array.getD_eq_getD_getElem?, Array.getElem?_setIfInBounds, if_neg, ← Array.getD_eq_getD_getElem?]
          rintro rfl
          exact hds hdd
      rw [hold]
      exact ev'.cv (m.kept s fun i' o' hl ho' => hno i' o' ((LD_set hil).2 (.inr hl)) ho')
  unfold wpOpIn
  rw [ho]
  simp only
  by_cases hw : Region.wanted o (yielded ops a.tmps) = true
  · rw [if_pos hw] at hg ⊢
    refine Oper.wpIn_mono ?_ (AStep.at hg Q)
    rintro a' w' ⟨u, y, ρ', I', H', rfl, ⟨rfl, rfl⟩, hx, hc', ev'⟩
    exact next u ρ' I' w' hx hc' ev'
  · rw [if_neg hw] at hg ⊢
    obtain ⟨hH, hx⟩ := hg
    refine ⟨fun _ _ => trivial, next undef ρ I w hx ?_ ?_⟩
    · rw [hH]; exact m.conc
    · rw [hH]; exact .refl ρ I w _

theorem Mid.any (F : Fits ops n effs) (N : Need P ops n T vs effs hs) (hvs : vs.length = ops.size) {Q : APost} {ρ0 : Rho} {I0 : Imm} {w0 : World} {H0 : AHeap}
    (hQ : Q .normal (frameAt T ops.toList vs) (hs.getD effs.length AHeap.empty)) : ∀ (fuel : Nat) (listed : Array Bool) (k : Nat) (ρ : Rho) (I : Imm) (a : Act) (w : World), Mid ops T vs effs hs listed k ρ I a w → ((List.range ops.size).filter fun i => !listed.getD i false).length ≤ fuel →
      a.tmps.size = n → DOK md ρ w (hs.getD k AHeap.empty) a.defers → Ev ρ0 I0 w0 H0 ρ I w (hs.getD k AHeap.empty) → wpAnyIn md.F 0 P .any ops (Fin md Q ρ0 I0 w0 H0 n) fuel listed a w := by
  -- the end
  have fin : ∀ (listed : Array Bool) (k : Nat) (ρ : Rho) (I : Imm) (a : Act) (w : World), Mid ops T vs effs hs listed k ρ I a w → (∀ i, i < ops.size → LD listed i) → a.tmps.size = n → DOK md ρ w (hs.getD k AHeap.empty) a.defers → Ev ρ0 I0 w0 H0 ρ I w (hs.getD k AHeap.empty) → Fin md Q ρ0 I0 w0 H0 n .normal a w := by
    intro listed k ρ I a w m hall hn hd ev
    have hk : k = effs.length := by
      refine Nat.le_antisymm m.kle (Nat.le_of_not_lt fun h => ?_)
      have := (m.pre k effs[k] (by simp [h])).1 (hall _ (F.lt _ (List.getElem_mem h)))
      omega
    subst hk
    refine ⟨_, ρ, I, _, hQ, m.conc, fun s => ?_, hn, hd, ev⟩
    rcases look_frameAt T s ops.toList vs (by simp [hvs]) with ⟨h1, h2⟩ | ⟨q, oq, h1, h2, h3, h4⟩
    · rw [h2]; exact m.kept s fun i o _ ho => h1 i o (by simpa using ho)
    · rw [h4]
      have hoq : ops[q]? = some oq := by simpa using h1
      exact m.written s q oq (hall q (Array.getElem?_eq_some_iff.1 hoq).1) hoq h2 fun i' o' _ ho' hd' => Nat.le_of_not_lt fun hlt => h3 i' o' hlt (by simpa using ho') hd'
  -- somebody is ready
  have some_ready : ∀ (listed : Array Bool), listed.size = ops.size → (∃ i, i < ops.size ∧ ¬ LD listed i) → Region.ready .any ops listed ≠ [] := by
    intro listed hsz ⟨i, hi, hni⟩
    induction i using Nat.strongRecOn with
    | _ i ih =>
      by_cases hp : ∀ e ∈ ops[i].after, Region.binds .any e = true → LD listed e.on
      · have : i ∈ Region.ready .any ops listed := by
          rw [mem_ready]
          refine ⟨?_, ops[i], by simp [hi], hp⟩
          unfold LD at hni
          rw [Array.getD_eq_getD_getElem?, Array.getElem?_eq_getElem (by omega)] at hni ⊢
          simpa using hni
        intro h
        rw [h] at this; cases this
      · obtain ⟨e, he⟩ := Classical.not_forall.1 hp
        obtain ⟨he, h⟩ := Classical.not_imp.1 he
        obtain ⟨hb, h⟩ := Classical.not_imp.1 h
        have hlt := F.fw i ops[i] (by simp [hi]) e he hb
        exact ih e.on hlt (by omega) h
  have count0 : ∀ (listed : Array Bool), ((List.range ops.size).filter fun i => !listed.getD i false).length ≤ 0 → ∀ i, i < ops.size → LD listed i := by
    intro listed h i hi
    have : (List.range ops.size).filter (fun i => !listed.getD i false) = [] := List.eq_nil_of_length_eq_zero (by omega)
    rw [List.filter_eq_nil_iff] at this
    have := this i (List.mem_range.2 hi)
    unfold LD
    simpa using this
  intro fuel
  induction fuel with
  | zero =>
    intro listed k ρ I a w m hc hn hd ev
    have hall := count0 listed hc
    refine ⟨?_, fin listed k ρ I a w m hall hn hd ev⟩
    refine List.eq_nil_iff_forall_not_mem.2 fun i hi => ?_
    obtain ⟨h0, o, ho, _⟩ := mem_ready.1 hi
    have hlt := (Array.getElem?_eq_some_iff.1 ho).1
    have := hall i hlt
    unfold LD at this
    have hsz := m.size
    rw [Array.getD_eq_getD_getElem?, Array.getElem?_eq_getElem (by omega)] at h0 this
    simp at h0 this
    rw [h0] at this; cases this
  | succ fuel ih =>
    intro listed k ρ I a w m hc hn hd ev
    refine ⟨fun h => ?_, fun i hi => ?_⟩
    · refine fin listed k ρ I a w m (fun i hi => ?_) hn hd ev
      refine Classical.byContradiction fun hni => ?_
      exact some_ready listed m.size ⟨i, hi, hni⟩ h
    · obtain ⟨h0, o, ho, hp⟩ := mem_ready.1 hi
      have hlt := (Array.getElem?_eq_some_iff.1 ho).1
      have hsz := m.size
      have hni : ¬ LD listed i := by
        unfold LD
        rw [Array.getD_eq_getD_getElem?, Array.getElem?_eq_getElem (by omega)] at h0 ⊢
        simp at h0 ⊢
        exact h0
      refine wpOpIn_mono ?_ (m.run F N hvs ho hp hni hn hd ev)
      rintro a' w' ⟨k', ρ', I', m', hn', hd', ev'⟩
      refine ih _ k' ρ' I' a' w' m' ?_ hn' hd' ev'
      have hfil : ((List.range ops.size).filter fun j => !(listed.setIfInBounds i true).getD j false).length < ((List.range ops.size).filter fun j => !listed.getD j false).length := by
        have hsub : ((List.range ops.size).filter fun j => !(listed.setIfInBounds i true).getD j false) = ((List.range ops.size).filter fun j => !listed.getD j false).filter fun j => j != i := by
          rw [List.filter_filter]
          refine List.filter_congr fun j hj => ?_
          have hj' := List.mem_range.1 hj
          have hset := LD_set (listed := listed) (i := i) (j := j) (by omega)
          unfold LD at hset
          cases h1 : (listed.setIfInBounds i true).getD j false <;> cases h2 : listed.getD j false <;> simp [h1, h2] at hset ⊢
          all_goals first | exact hset | (simpa using hset) | skip
        rw [hsub]
        refine List.length_filter_lt_length_iff_exists.2 ⟨i, ?_, by simp⟩
        rw [List.mem_filter]
        refine ⟨List.mem_range.2 hlt, ?_⟩
        unfold LD at hni
        simpa using hni
      omega

theorem idxOf_get {l : List Nat} {i j : Nat} (h : l.idxOf? i = some j) : l[j]? = some i := by
  induction l generalizing j with
  | nil => simp [List.idxOf?] at h
  | cons a r ih =>
    rw [List.idxOf?_cons] at h
    split at h
    · rename_i hb
      simp only [Option.some.injEq] at h
      subst h
      simpa using hb
    · cases hr : r.idxOf? i with
      | none => rw [hr] at h; simp at h
      | some q => rw [hr] at h; simp at h; subst h; simpa using ih hr

theorem AW.draw {id : Nat} {Q : APost} (hmix : P.follows .mixedOrders = true) (vs : List AV) (effs : List Nat) (hs : List AHeap) (obs : List (Nat × Nat)) (hb : drawB ops n effs = true) (hcov : coverB ops effs obs = true) (hvs : vs.length = ops.size) (h0 : hs.getD 0 AHeap.empty = H)
    (hob : AllP (Ob P ops n T vs effs hs) obs) (hQ : Q .normal (frameAt T ops.toList vs) (hs.getD effs.length AHeap.empty)) : AW md P (.region id ops true) Q T H n := by
  have F : Fits ops n effs := drawB_spec hb
  have N : Need P ops n T vs effs hs := by
    intro i o k ho hk h1 h2 h3
    have hil := (Array.getElem?_eq_some_iff.1 ho).1
    have hmem : (i, k) ∈ obs := by
      simp only [coverB, List.all_eq_true, List.mem_range] at hcov
      have := hcov i hil k (by omega)
      simp only [Bool.or_eq_true, List.contains_iff_mem] at this
      refine this.resolve_left fun hbad => ?_
      split at hbad
      · rename_i j hj
        have hj' : effs[j]? = some i := by
          exact idxOf_get hj
        have := h1 j hj'
        subst this
        simp at hbad
      · have : mayB ops effs i k = true := by
          simp only [mayB, List.all_eq_true]
          rintro ⟨e, j⟩ hej
          have hej' : effs[j]? = some e := by simpa using List.mem_zipIdx_iff_getElem?.1 hej
          simp only [Bool.and_eq_true, Bool.or_eq_true, Bool.not_eq_true']
          refine ⟨?_, ?_⟩
          · by_cases hm : e ∈ anc ops i
            · exact .inr (Eq.mpr Nat.blt_eq (h2 j e hej' hm))
            · left; rw [← Bool.not_eq_true, List.contains_iff_mem]; exact hm
          · by_cases hm : i ∈ anc ops e
            · exact .inr (Eq.mpr Nat.ble_eq (h3 j e hej' hm))
            · left; rw [← Bool.not_eq_true, List.contains_iff_mem]; exact hm
        rw [this] at hbad; cases hbad
    have := hob.of_mem (i, k) hmem
    simpa only [Ob, ho] using this
  intro ρ I w a hc ht hn hd
  have hno : ∀ i, ¬ LD (Array.replicate ops.size false) i := by
    intro i h
    unfold LD at h
    rw [Array.getD_eq_getD_getElem?, Array.getElem?_replicate] at h
    split at h <;> simp at h
  refine wpIn_region_any hmix (Mid.any F N hvs hQ ops.size _ 0 ρ I a _ ⟨by simp, fun i o h => (hno i h).elim, fun j e _ => ⟨fun h => (hno e h).elim, fun h => by omega⟩, Nat.zero_le _, by rw [h0]; exact hc.drew, fun s i o h => (hno i h).elim, fun s _ => ht s⟩ ?_ hn (by rw [h0]; exact hd.ev (Ev.drew ρ I w H)) ?_)
  · refine Nat.le_trans (List.length_filter_le _ _) ?_
    simp
  · rw [h0]; exact .drew ρ I w H
end
end Go.Ax
