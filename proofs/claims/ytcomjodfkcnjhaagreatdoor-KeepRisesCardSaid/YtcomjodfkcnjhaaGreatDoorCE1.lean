/- The abstract layer, part 1: abstract values, the abstract heap, what it is for a world to bear them. No program is named here. -/
import Derived.WalkKit
import Derived.Orders
import Derived.Deep.LoopGhost
import Derived.OrdersIn
import Derived.TacticsIn
import Derived.RangeFuncRecord
import Derived.Laws.CopyRow
import Derived.Laws.Append
import Derived.Laws.AppendOwn
import Derived.IntWalk
set_option linter.unusedSimpArgs false
set_option linter.unusedVariables false
namespace Go.Ax

structure Blk where
  b : Nat
  sz : Nat

inductive AV where
  | v (x : Value)
  | any
  | ptr (l off : Nat)
  | ip (cs : List AV)
  | sl (l off len k : Nat)
  | slc (l off len cap k : Nat)
  | slx (l off len cap k : Nat)
  | vec (n : Nat) (cs : List AV)
  | map (l : Nat)
  | func (fn : Fn) (caps : List AV)
  | agg (cs : List AV)
  | tup (cs : List AV)
  | iface (t : TypeId) (a : AV)
  | yld (l : Nat)
  | num (k : IntKind)
  | cond (b : Bool) (a : AV)

instance : Inhabited AV := ⟨.any⟩

abbrev Rho := Nat → Option Blk
abbrev Imm := Nat → Option (Array Value)

inductive CV (ρ : Rho) (I : Imm) : AV → Value → Prop where
  | v (x : Value) : CV ρ I (.v x) x
  | any (y : Value) : CV ρ I .any y
  | ptr {l off : Nat} {B : Blk} (h : ρ l = some B) : CV ρ I (.ptr l off) (.pointer (some ⟨B.b, off, none⟩))
  | ip {cs : List AV} {b off : Nat} {arr : Array Value} {vs : List Value} (h : I b = some arr) (hl : vs.length = cs.length)
      (hc : ∀ (i : Nat) u, vs[i]? = some u → arr[off + i]? = some u) (hv : ∀ (i : Nat) a u, cs[i]? = some a → vs[i]? = some u → CV ρ I a u) : CV ρ I (.ip cs) (.pointer (some ⟨b, off, none⟩))
  | sl {l off len k c : Nat} {B : Blk} (h : ρ l = some B) (hl : len ≤ c) (hm : c ≤ maxLen) (hs : off + c * k ≤ B.sz) : CV ρ I (.sl l off len k) (.slice (some ⟨B.b, off, none⟩) len c)
  | slc {l off len cap k c : Nat} {B : Blk} (h : ρ l = some B) (hl : len ≤ cap) (hc : cap ≤ c) (hm : c ≤ maxLen) (hs : off + c * k ≤ B.sz) : CV ρ I (.slc l off len cap k) (.slice (some ⟨B.b, off, none⟩) len c)
  | slx {l off len cap k : Nat} {B : Blk} (h : ρ l = some B) (hl : len ≤ cap) (hm : cap ≤ maxLen) (hs : off + cap * k ≤ B.sz) : CV ρ I (.slx l off len cap k) (.slice (some ⟨B.b, off, none⟩) len cap)
  | vec0 {a : Option Addr} {c : Nat} : CV ρ I (.vec 0 []) (.slice a 0 c)
  | vec {n c : Nat} {cs : List AV} {b off : Nat} {arr : Array Value} {vs : List Value} (hn : n ≤ c) (hm : c ≤ maxLen) (h : I b = some arr) (hl : vs.length = cs.length)
      (hc : ∀ (i : Nat) u, vs[i]? = some u → arr[off + i]? = some u) (hv : ∀ (i : Nat) a u, cs[i]? = some a → vs[i]? = some u → CV ρ I a u) : CV ρ I (.vec n cs) (.slice (some ⟨b, off, none⟩) n c)
  | map {l : Nat} {B : Blk} (h : ρ l = some B) : CV ρ I (.map l) (.map (some B.b))
  | func {fn : Fn} {cs : List AV} {vs : List Value} (hl : vs.length = cs.length) (hv : ∀ (i : Nat) a u, cs[i]? = some a → vs[i]? = some u → CV ρ I a u) : CV ρ I (.func fn cs) (.func fn #[] vs.toArray)
  | agg {cs : List AV} {vs : List Value} (hl : vs.length = cs.length) (hv : ∀ (i : Nat) a u, cs[i]? = some a → vs[i]? = some u → CV ρ I a u) : CV ρ I (.agg cs) (.agg vs.toArray)
  | tup {cs : List AV} {vs : List Value} (hl : vs.length = cs.length) (hv : ∀ (i : Nat) a u, cs[i]? = some a → vs[i]? = some u → CV ρ I a u) : CV ρ I (.tup cs) (.tuple vs.toArray)
  | iface {t : TypeId} {a : AV} {u : Value} (h : CV ρ I a u) : CV ρ I (.iface t a) (.iface t u)
  | yld {l : Nat} {B : Blk} (h : ρ l = some B) : CV ρ I (.yld l) (.func (.yield B.b) #[] #[])
  | num {k : IntKind} (n : Int) : CV ρ I (.num k) (.int k n)
  | cond {b : Bool} {a : AV} {u : Value} (h : b = true → CV ρ I a u) (h0 : b = false → u = undef) : CV ρ I (.cond b a) u

def CVs (ρ : Rho) (I : Imm) (cs : List AV) (vs : List Value) : Prop :=
  vs.length = cs.length ∧ ∀ (i : Nat) a u, cs[i]? = some a → vs[i]? = some u → CV ρ I a u

inductive AObj where
  | cells (t : TypeId) (cs : List AV)
  | map (es : List (Value × AV))
  | obj (o : Obj)
  | lp (rec : Loop) (cs : List AV)
  | smap (es : List (Value × AV)) (st : List Nat) (clock : Nat)
  | iter (l since : Nat) (seen : List Nat) (last : Nat)

structure AHeap where
  get : Nat → Option AObj
  next : Nat

def AHeap.empty : AHeap := ⟨fun _ => none, 0⟩
def AHeap.set (H : AHeap) (l : Nat) (o : AObj) : AHeap := ⟨fun k => if k = l then some o else H.get k, H.next⟩
def AHeap.del (H : AHeap) (l : Nat) : AHeap := ⟨fun k => if k = l then none else H.get k, H.next⟩
def AHeap.new (H : AHeap) (o : AObj) : AHeap := ⟨fun k => if k = H.next then some o else H.get k, H.next + 1⟩

theorem AHeap.get_set_same (H : AHeap) (l : Nat) (o : AObj) : (H.set l o).get l = some o := by simp [AHeap.set]
theorem AHeap.get_set_ne (H : AHeap) {l k : Nat} (o : AObj) (h : k ≠ l) : (H.set l o).get k = H.get k := by simp [AHeap.set, h]
theorem AHeap.get_del_same (H : AHeap) (l : Nat) : (H.del l).get l = none := by simp [AHeap.del]
theorem AHeap.get_del_ne (H : AHeap) {l k : Nat} (h : k ≠ l) : (H.del l).get k = H.get k := by simp [AHeap.del, h]
theorem AHeap.get_new_same (H : AHeap) (o : AObj) : (H.new o).get H.next = some o := by simp [AHeap.new]
theorem AHeap.get_new_ne (H : AHeap) {k : Nat} (o : AObj) (h : k ≠ H.next) : (H.new o).get k = H.get k := by simp [AHeap.new, h]
theorem AHeap.next_set (H : AHeap) (l : Nat) (o : AObj) : (H.set l o).next = H.next := rfl
class Tabs where
  tab : Nat → Option (List AV)
  msp : Nat → Bool := fun _ => false
set_option linter.unusedSectionVars false
variable [Tabs]

def CellsAt (w : World) (b : Nat) (arr : Array Value) (t : TypeId) : Prop := ∃ fz : Nat × Nat, w.heap[b]? = some (.cells arr t fz) ∧ (fz = (0, 0) ∨ arr.size ≤ fz.1 ∧ Tabs.msp t = true)
theorem CellsAt.of {w : World} {b : Nat} {arr : Array Value} {t : TypeId} (h : w.heap[b]? = some (.cells arr t (0, 0))) : CellsAt w b arr t := ⟨_, h, .inl rfl⟩
theorem CellsAt.mono {w w' : World} {b : Nat} {arr : Array Value} {t : TypeId} (h : CellsAt w b arr t) (e : w'.heap[b]? = w.heap[b]?) : CellsAt w' b arr t := by
  obtain ⟨fz, h1, h2⟩ := h
  exact ⟨fz, e.trans h1, h2⟩
theorem CellsAt.size {w : World} {b : Nat} {arr : Array Value} {t : TypeId} (h : CellsAt w b arr t) : b < w.heap.size := by
  obtain ⟨fz, h1, _⟩ := h
  exact (Array.getElem?_eq_some_iff.1 h1).1
theorem CellsAt.cell {w : World} {b : Nat} {arr : Array Value} {t : TypeId} (h : CellsAt w b arr t) (o : Nat) : w.cell? ⟨b, o, none⟩ = arr[o]? := by
  obtain ⟨fz, h1, _⟩ := h
  simp [World.cell?, h1]
theorem CellsAt.shape {w : World} {b : Nat} {arr : Array Value} {t : TypeId} (h : CellsAt w b arr t) : w.shape? b = some (t, arr.size) := by
  obtain ⟨fz, h1, _⟩ := h
  simp [World.shape?, h1]
theorem CellsAt.uniq {w : World} {b : Nat} {arr arr' : Array Value} {t t' : TypeId} (h : CellsAt w b arr t) (h' : CellsAt w b arr' t') : arr = arr' ∧ t = t' := by
  obtain ⟨fz, h1, _⟩ := h
  obtain ⟨fz', h1', _⟩ := h'
  rw [h1] at h1'
  cases h1'
  exact ⟨rfl, rfl⟩
theorem CellsAt.row {w : World} {b : Nat} {arr cs : Array Value} {t : TypeId} (h : CellsAt w b arr t) (hs : cs.size = arr.size) : CellsAt (w.setRow b cs) b cs t := by
  obtain ⟨fz, h1, h2⟩ := h
  exact ⟨fz, setRow_heap w b arr cs t fz h1, h2.imp id fun h => ⟨by omega, h.2⟩⟩
theorem CellsAt.plain {w : World} {b : Nat} {arr : Array Value} {t : TypeId} (h : CellsAt w b arr t) (ht : Tabs.msp t = false) : w.heap[b]? = some (.cells arr t (0, 0)) := by
  obtain ⟨fz, h1, h2⟩ := h
  rcases h2 with h2 | h2
  · rw [h1, h2]
  · rw [ht] at h2; cases h2.2
theorem run_storeCells_un (P : Program) (g o : Nat) (t : TypeId) (fz : Nat × Nat) : ∀ (vs : List Value) (i : Nat) (cur : Array Value) (w : World), w.heap[g]? = some (.cells cur t fz) → (fz = (0, 0) ∨ cur.size ≤ fz.1) → o + i + vs.length ≤ cur.size → (∀ v ∈ vs, v.oneCell' = true) →
    (storeCells ⟨g, o, none⟩ vs i).run P w = .ok () (w.setRow g (cur.toList.take (o + i) ++ vs ++ cur.toList.drop (o + i + vs.length)).toArray)
  | [], i, cur, w, hg, _, _, _ => by
    simp only [storeCells, List.append_nil, List.length_nil, Nat.add_zero, List.take_append_drop, Array.toArray_toList]
    rw [setRow_self w g cur t fz hg]
    rfl
  | v :: rest, i, cur, w, hg, hfz, hl, h1 => by
    have hi : o + i < cur.size := by simp at hl; omega
    have hadd : (⟨g, o, none⟩ : Addr).add i = ⟨g, o + i, none⟩ := by unfold Addr.add; split <;> simp_all
    have hcell : w.cell? ⟨g, o + i, none⟩ = some cur[o + i] := by simp [World.cell?, hg, hi]
    have hfro : w.frozen? ⟨g, o + i, none⟩ = false := by
      obtain ⟨lo, hi'⟩ := fz
      rcases hfz with h | h
      · cases h; simp [World.frozen?, hg]
      · simp only [World.frozen?, hg, Bool.and_eq_false_iff, decide_eq_false_iff_not]
        left
        simp only at h
        omega
    have hst : (store ((⟨g, o, none⟩ : Addr).add i) v).run P w = .ok () (w.setRow g (cur.setIfInBounds (o + i) v)) := by
      rw [hadd, run_store P w _ v _ (h1 v (by simp)), hcell]
      simp [hfro, setCell_eq_setRow w g (o + i) cur t fz v hg]
    have ih := run_storeCells_un P g o t fz rest (i + 1) (cur.setIfInBounds (o + i) v) (w.setRow g (cur.setIfInBounds (o + i) v)) (setRow_heap w g cur _ t _ hg) (by simpa using hfz) (by simp at hl ⊢; omega) (fun x hx => h1 x (by simp [hx]))
    simp only [storeCells, Sem.run_bind, hst, Result.andThen_ok, ih, setRow_setRow]
    congr 3
    have e := list_seg_step cur.toList (o + i) v rest (by simp at hl ⊢; omega)
    simpa [Array.toList_setIfInBounds, Nat.add_assoc] using e
theorem CellsAt.run_store {P : Program} {w : World} {g o : Nat} {t : TypeId} {cur : Array Value} (h : CellsAt w g cur t) (vs : List Value) (i : Nat) (hl : o + i + vs.length ≤ cur.size) (h1 : ∀ v ∈ vs, v.oneCell' = true) :
    (storeCells ⟨g, o, none⟩ vs i).run P w = .ok () (w.setRow g (cur.toList.take (o + i) ++ vs ++ cur.toList.drop (o + i + vs.length)).toArray) := by
  obtain ⟨fz, h2, h3⟩ := h
  exact run_storeCells_un P g o t fz vs i cur w h2 (h3.imp id fun h => h.1) hl h1

def ObjAt (ρ : Rho) (I : Imm) (w : World) (B : Blk) : AObj → Prop
  | .cells t cs => ∃ arr, CellsAt w B.b arr t ∧ arr.size = B.sz ∧ cs.length ≤ arr.size ∧ ∀ (i : Nat) a u, cs[i]? = some a → arr[i]? = some u → CV ρ I a u
  | .map es => ∃ ents clock, w.heap[B.b]? = some (.map ents clock) ∧ ents.size = es.length ∧
      (∀ (i : Nat) e en, es[i]? = some e → ents[i]? = some en → en.key = e.1 ∧ CV ρ I e.2 en.val) ∧
      (∀ (i : Nat) en, ents[i]? = some en → en.born < clock) ∧ (∀ (i j : Nat) x y, ents[i]? = some x → ents[j]? = some y → x.born = y.born → i = j)
  | .obj o => w.heap[B.b]? = some o
  | .lp rec cs => w.heap[B.b]? = some (.loop rec) ∧ ∀ (i : Nat) a, cs[i]? = some a → CV ρ I a (rec.tmps.getD i undef)
  | .smap es st clock => ∃ ents, w.heap[B.b]? = some (.map ents clock) ∧ ents.size = es.length ∧
      (∀ (i : Nat) e en, es[i]? = some e → ents[i]? = some en → en.key = e.1 ∧ CV ρ I e.2 en.val) ∧ ents.toList.map (·.born) = st ∧ st.Nodup ∧ ∀ s ∈ st, s < clock
  | .iter l since seen last => ∃ B', ρ l = some B' ∧ w.heap[B.b]? = some (.mapIter (some B'.b) since seen.toArray last)

structure Conc (ρ : Rho) (I : Imm) (w : World) (H : AHeap) : Prop where
  inj : ∀ l l' B B', ρ l = some B → ρ l' = some B' → (H.get l).isSome → (H.get l').isSome → B.b = B'.b → l = l'
  dom : ∀ l B, ρ l = some B → l < H.next
  obj : ∀ l o, H.get l = some o → ∃ B, ρ l = some B ∧ I B.b = none ∧ ObjAt ρ I w B o
  imm : ∀ b arr, I b = some arr → ∃ t fz, w.heap[b]? = some (.cells arr t fz)
  glob : ∀ g cs, Tabs.tab g = some cs → ∃ arr, I g = some arr ∧ CVs ρ I cs arr.toList

def Owned (ρ : Rho) (H : AHeap) (b : Nat) : Prop := ∃ l B, ρ l = some B ∧ B.b = b ∧ (H.get l).isSome

structure Ev (ρ : Rho) (I : Imm) (w : World) (H : AHeap) (ρ' : Rho) (I' : Imm) (w' : World) (H' : AHeap) : Prop where
  rho : ∀ l B, ρ l = some B → ρ' l = some B
  imm : ∀ b a, I b = some a → I' b = some a
  os : w'.os = w.os
  tape : w'.tape = w.tape
  output : w'.output = w.output
  size : w.heap.size ≤ w'.heap.size
  blk : ∀ b, b < w.heap.size → ¬ Owned ρ H b → w'.heap[b]? = w.heap[b]?
  own : ∀ b, b < w.heap.size → ¬ Owned ρ H b → ¬ Owned ρ' H' b
  next : H.next ≤ H'.next

theorem Ev.refl (ρ : Rho) (I : Imm) (w : World) (H : AHeap) : Ev ρ I w H ρ I w H :=
  ⟨fun _ _ h => h, fun _ _ h => h, rfl, rfl, rfl, Nat.le_refl _, fun _ _ _ => rfl, fun _ _ h => h, Nat.le_refl _⟩

theorem Ev.trans {ρ : Rho} {I : Imm} {w : World} {H : AHeap} {ρ1 : Rho} {I1 : Imm} {w1 : World} {H1 : AHeap} {ρ2 : Rho} {I2 : Imm} {w2 : World} {H2 : AHeap}
    (a : Ev ρ I w H ρ1 I1 w1 H1) (b : Ev ρ1 I1 w1 H1 ρ2 I2 w2 H2) : Ev ρ I w H ρ2 I2 w2 H2 where
  rho l B h := b.rho l B (a.rho l B h)
  imm x y h := b.imm x y (a.imm x y h)
  os := b.os.trans a.os
  tape := b.tape.trans a.tape
  output := b.output.trans a.output
  size := Nat.le_trans a.size b.size
  blk x hx ho := (b.blk x (Nat.lt_of_lt_of_le hx a.size) (a.own x hx ho)).trans (a.blk x hx ho)
  own x hx ho := b.own x (Nat.lt_of_lt_of_le hx a.size) (a.own x hx ho)
  next := Nat.le_trans a.next b.next

theorem CV.mono {ρ ρ' : Rho} {I I' : Imm} (hρ : ∀ l B, ρ l = some B → ρ' l = some B) (hI : ∀ b a, I b = some a → I' b = some a) {a : AV} {u : Value} (h : CV ρ I a u) : CV ρ' I' a u := by
  induction h with
  | v x => exact .v x
  | any y => exact .any y
  | ptr h => exact .ptr (hρ _ _ h)
  | ip h hl hc _ ih => exact .ip (hI _ _ h) hl hc ih
  | sl h hl hm hs => exact .sl (hρ _ _ h) hl hm hs
  | slc h hl hc hm hs => exact .slc (hρ _ _ h) hl hc hm hs
  | slx h hl hm hs => exact .slx (hρ _ _ h) hl hm hs
  | vec0 => exact .vec0
  | vec hn hm h hl hc _ ih => exact .vec hn hm (hI _ _ h) hl hc ih
  | map h => exact .map (hρ _ _ h)
  | func hl _ ih => exact .func hl ih
  | agg hl _ ih => exact .agg hl ih
  | tup hl _ ih => exact .tup hl ih
  | iface _ ih => exact .iface ih
  | yld h => exact .yld (hρ _ _ h)
  | num n => exact .num n
  | cond _ h0 ih => exact .cond ih h0

theorem Ev.cv {ρ : Rho} {I : Imm} {w : World} {H : AHeap} {ρ' : Rho} {I' : Imm} {w' : World} {H' : AHeap} (e : Ev ρ I w H ρ' I' w' H') {a : AV} {u : Value} (h : CV ρ I a u) : CV ρ' I' a u :=
  h.mono e.rho e.imm

abbrev Fr := List (Nat × AV)

def look : Fr → Nat → AV
  | [], _ => .any
  | (j, a) :: r, i => bif Nat.beq i j then a else look r i

theorem look_cons (j : Nat) (a : AV) (r : Fr) (i : Nat) : look ((j, a) :: r) i = if i = j then a else look r i := by
  simp only [look]
  by_cases h : i = j
  · subst h; simp
  · rw [if_neg h]
    have : Nat.beq i j = false := by
      cases hb : Nat.beq i j with
      | false => rfl
      | true => exact (h (Nat.eq_of_beq_eq_true hb)).elim
    rw [this]; rfl

def TV (ρ : Rho) (I : Imm) (T : Fr) (a : Act) : Prop := ∀ i, CV ρ I (look T i) (a.tmps.getD i undef)

theorem Conc.globs {ρ ρ' : Rho} {I I' : Imm} {w : World} {H : AHeap} (h : Conc ρ I w H) (hρ : ∀ l B, ρ l = some B → ρ' l = some B) (hI : ∀ b a, I b = some a → I' b = some a) : ∀ g cs, Tabs.tab g = some cs → ∃ arr, I' g = some arr ∧ CVs ρ' I' cs arr.toList := by
  intro g cs hg
  obtain ⟨arr, h1, h2, h3⟩ := h.glob g cs hg
  exact ⟨arr, hI _ _ h1, h2, fun i a u hi hu => (h3 i a u hi hu).mono hρ hI⟩
theorem TV.mono {ρ ρ' : Rho} {I I' : Imm} (hρ : ∀ l B, ρ l = some B → ρ' l = some B) (hI : ∀ b a, I b = some a → I' b = some a) {T : Fr} {a : Act} (h : TV ρ I T a) : TV ρ' I' T a :=
  fun i => (h i).mono hρ hI

def putA (T : Fr) : Option Tmp → AV → Fr
  | some d, x => (d, x) :: T
  | none, _ => T

theorem TV.put {ρ : Rho} {I : Imm} {T : Fr} {a : Act} (h : TV ρ I T a) {d : Option Tmp} {x : AV} {u : Value} (hd : ∀ t, d = some t → t < a.tmps.size) (hx : CV ρ I x u) : TV ρ I (putA T d x) (a.put d u) := by
  cases d with
  | none => exact h
  | some t =>
    have ht := hd t rfl
    intro i
    simp only [putA, look_cons, Act.put]
    by_cases hi : i = t
    · subst hi
      simp only [if_true]
      rw [Array.getD_eq_getD_getElem?, Array.getElem?_setIfInBounds]
      simp [ht, hx]
    · rw [if_neg hi]
      have := h i
      rw [Array.getD_eq_getD_getElem?, Array.getElem?_setIfInBounds, if_neg (fun e => hi e.symm)]
      rw [Array.getD_eq_getD_getElem?] at this
      exact this

theorem put_size (a : Act) (d : Option Tmp) (u : Value) : (a.put d u).tmps.size = a.tmps.size := by
  cases d <;> simp [Act.put]
theorem put_defers (a : Act) (d : Option Tmp) (u : Value) : (a.put d u).defers = a.defers := by
  cases d <;> simp [Act.put]

def aev (T : Fr) : Operand → AV
  | .tmp t => look T t
  | .const x => .v x
  | .global _ => .any
  | .func f => .func (.func f) []

theorem aev_cv {ρ : Rho} {I : Imm} {T : Fr} {a : Act} (h : TV ρ I T a) (x : Operand) : CV ρ I (aev T x) (a.eval x) := by
  cases x with
  | tmp t => exact h t
  | const x => exact .v x
  | global g => exact .any _
  | func f => exact .func (vs := []) rfl (by simp)

end Go.Ax

/- The abstract layer, part 2: the judgement on code, and its rules for control. -/

namespace Go.Ax
set_option linter.unusedSectionVars false
variable [Tabs]

abbrev APost := Exit → Fr → AHeap → Prop

structure Md where
  r : Option Nat := none
  base : Nat := 0
def Md.F (md : Md) : Fence := { Fence.wide with round := md.r }
variable {md : Md}

def DOK (md : Md) (ρ : Rho) (w : World) (H : AHeap) (ds : List Deferred) : Prop :=
  md.base ≤ w.heap.size ∧ ds.Nodup ∧ ∀ d ∈ ds, ∃ D, d = { target := .collected D, args := #[] } ∧ md.base ≤ D ∧ w.heap[D]? = some (.deferred (some [])) ∧ ¬ Owned ρ H D
theorem DOK.nil {ρ : Rho} {w : World} {H : AHeap} (h : md.base ≤ w.heap.size) : DOK md ρ w H [] := ⟨h, List.nodup_nil, fun _ h => by cases h⟩
theorem DOK.ev {ρ : Rho} {I : Imm} {w : World} {H : AHeap} {ρ' : Rho} {I' : Imm} {w' : World} {H' : AHeap} {ds : List Deferred} (h : DOK md ρ w H ds) (e : Ev ρ I w H ρ' I' w' H') : DOK md ρ' w' H' ds := by
  refine ⟨Nat.le_trans h.1 e.size, h.2.1, fun d hd => ?_⟩
  obtain ⟨D, rfl, h1, h2, h3⟩ := h.2.2 d hd
  have hD : D < w.heap.size := (Array.getElem?_eq_some_iff.1 h2).1
  exact ⟨D, rfl, h1, (e.blk D hD h3).trans h2, e.own D hD h3⟩

def Fin (md : Md) (Q : APost) (ρ : Rho) (I : Imm) (w : World) (H : AHeap) (n : Nat) : Exit → Act → World → Prop := fun e a' w' =>
  ∃ T' ρ' I' H', Q e T' H' ∧ Conc ρ' I' w' H' ∧ TV ρ' I' T' a' ∧ a'.tmps.size = n ∧ DOK md ρ' w' H' a'.defers ∧ Ev ρ I w H ρ' I' w' H'

def AW (md : Md) (P : Program) (c : Code) (Q : APost) (T : Fr) (H : AHeap) (n : Nat) : Prop :=
  ∀ ρ I w a, Conc ρ I w H → TV ρ I T a → a.tmps.size = n → DOK md ρ w H a.defers → c.wpIn md.F 0 P (Fin md Q ρ I w H n) a w

theorem wpIn_loop_ghost {F : Fence} {m : Nat} {P : Program} {Q : Exit → Act → World → Prop} {a : Act} {w : World} {c : Code} (I : Nat → Act → World → Prop) (n₀ : Nat) (h₀ : I n₀ a w)
    (round : ∀ n a w, I n a w → c.wpIn F m P (Exit.then (fun a' w' => ∃ n', n' < n ∧ I n' a' w') Q) a w) : (Code.loop c).wpIn F m P Q a w := by
  refine wpIn_loop (fun a w => ∃ n, I n a w) (fun a w => leastOf (fun n => I n a w)) ⟨n₀, h₀⟩ ?_
  intro a w hI
  refine wpIn_mono (round _ a w (leastOf_spec hI).1) ?_
  intro e a' w' hq
  cases e with
  | normal =>
    obtain ⟨n', hlt, hI'⟩ := hq
    exact show (∃ n, I n a' w') ∧ leastOf (fun n => I n a' w') < leastOf (fun n => I n a w) from ⟨⟨n', hI'⟩, Nat.lt_of_le_of_lt ((leastOf_spec ⟨n', hI'⟩).2 n' hI') hlt⟩
  | exit id => exact hq
  | goto l => exact hq
  | ret => exact hq
  | panic c => exact hq
  | outgrown => exact hq

theorem Fin.of_ev {Q : APost} {ρ ρ1 : Rho} {I I1 : Imm} {w w1 : World} {H H1 : AHeap} {n : Nat} (e : Ev ρ I w H ρ1 I1 w1 H1) {x : Exit} {a : Act} {w2 : World}
    (h : Fin md Q ρ1 I1 w1 H1 n x a w2) : Fin md Q ρ I w H n x a w2 := by
  obtain ⟨T', ρ', I', H', hq, hc, ht, hs, hd, he⟩ := h
  exact ⟨T', ρ', I', H', hq, hc, ht, hs, hd, e.trans he⟩

section
variable {P : Program} {Q : APost} {T : Fr} {H : AHeap} {n : Nat}

theorem AW.mono {c : Code} {Q' : APost} (h : AW md P c Q T H n) (hq : ∀ e T H, Q e T H → Q' e T H) : AW md P c Q' T H n :=
  fun ρ I w a hc ht hn hd => wpIn_mono (h ρ I w a hc ht hn hd) fun _ _ _ ⟨T', ρ', I', H', q, r⟩ => ⟨T', ρ', I', H', hq _ _ _ q, r⟩

theorem AW.skip (h : Q .normal T H) : AW md P .skip Q T H n :=
  fun ρ I w _ hc ht hn hd => wpIn_skip ⟨T, ρ, I, H, h, hc, ht, hn, hd, .refl ρ I w H⟩
theorem AW.ret (h : Q .ret T H) : AW md P .ret Q T H n :=
  fun ρ I w _ hc ht hn hd => wpIn_ret ⟨T, ρ, I, H, h, hc, ht, hn, hd, .refl ρ I w H⟩
theorem AW.exit {id : Nat} (h : Q (.exit id) T H) : AW md P (.exit id) Q T H n :=
  fun ρ I w _ hc ht hn hd => wpIn_exit ⟨T, ρ, I, H, h, hc, ht, hn, hd, .refl ρ I w H⟩

def AThen (next : Fr → AHeap → Prop) (Q : APost) : APost
  | .normal, T, H => next T H
  | e, T, H => Q e T H

theorem AW.seq {x y : Code} (h : AW md P x (AThen (fun T H => AW md P y Q T H n) Q) T H n) : AW md P (.seq x y) Q T H n := by
  intro ρ I w a hc ht hn hd
  refine wpIn_seq (wpIn_mono (h ρ I w a hc ht hn hd) ?_)
  intro e a' w' ⟨T', ρ', I', H', q, hc', ht', hn', hd', ev⟩
  cases e with
  | normal => exact wpIn_mono (q ρ' I' w' a' hc' ht' hn' hd') fun _ _ _ f => f.of_ev ev
  | exit id => exact ⟨T', ρ', I', H', q, hc', ht', hn', hd', ev⟩
  | goto l => exact ⟨T', ρ', I', H', q, hc', ht', hn', hd', ev⟩
  | ret => exact ⟨T', ρ', I', H', q, hc', ht', hn', hd', ev⟩
  | panic c => exact ⟨T', ρ', I', H', q, hc', ht', hn', hd', ev⟩
  | outgrown => exact ⟨T', ρ', I', H', q, hc', ht', hn', hd', ev⟩

theorem AW.cond {c : Operand} {x y : Code} (b : Bool) (hb : aev T c = .v (.bool b)) (h1 : b = true → AW md P x Q T H n) (h2 : b = false → AW md P y Q T H n) : AW md P (.cond c x y) Q T H n := by
  intro ρ I w a hc ht hn hd
  have hv := aev_cv ht c
  rw [hb] at hv
  have he : a.eval c = .bool b := by
    generalize a.eval c = u at hv
    cases hv
    rfl
  cases b with
  | true => exact wpIn_cond_true he (h1 rfl ρ I w a hc ht hn hd)
  | false => exact wpIn_cond_false he (h2 rfl ρ I w a hc ht hn hd)

def AInBlock (id : Nat) (Q : APost) : APost
  | .exit id', T, H => if id' = id then Q .normal T H else Q (.exit id') T H
  | e, T, H => Q e T H

theorem AW.block {id : Nat} {c : Code} (h : AW md P c (AInBlock id Q) T H n) : AW md P (.block id c) Q T H n := by
  intro ρ I w a hc ht hn hd
  refine wpIn_block (wpIn_mono (h ρ I w a hc ht hn hd) ?_)
  intro e a' w' ⟨T', ρ', I', H', q, hc', ht', hn', hd', ev⟩
  cases e with
  | exit id' =>
    simp only [AInBlock] at q
    simp only [Exit.inBlock]
    split
    · rename_i h; rw [if_pos h] at q; exact ⟨T', ρ', I', H', q, hc', ht', hn', hd', ev⟩
    · rename_i h; rw [if_neg h] at q; exact ⟨T', ρ', I', H', q, hc', ht', hn', hd', ev⟩
  | normal => exact ⟨T', ρ', I', H', q, hc', ht', hn', hd', ev⟩
  | goto l => exact ⟨T', ρ', I', H', q, hc', ht', hn', hd', ev⟩
  | ret => exact ⟨T', ρ', I', H', q, hc', ht', hn', hd', ev⟩
  | panic c => exact ⟨T', ρ', I', H', q, hc', ht', hn', hd', ev⟩
  | outgrown => exact ⟨T', ρ', I', H', q, hc', ht', hn', hd', ev⟩

theorem AW.loop {c : Code} (Inv : Nat → Fr → AHeap → Prop) (k0 : Nat) (h0 : Inv k0 T H)
    (round : ∀ k T H, Inv k T H → AW md P c (AThen (fun T' H' => ∃ k', k' < k ∧ Inv k' T' H') Q) T H n) : AW md P (.loop c) Q T H n := by
  intro ρ I w a hc ht hn hd
  refine wpIn_loop_ghost (fun k a' w' => ∃ T' ρ' I' H', Inv k T' H' ∧ Conc ρ' I' w' H' ∧ TV ρ' I' T' a' ∧ a'.tmps.size = n ∧ DOK md ρ' w' H' a'.defers ∧ Ev ρ I w H ρ' I' w' H') k0
    ⟨T, ρ, I, H, h0, hc, ht, hn, hd, .refl ρ I w H⟩ ?_
  intro k a1 w1 ⟨T1, ρ1, I1, H1, hi, hc1, ht1, hn1, hd1, ev1⟩
  refine wpIn_mono (round k T1 H1 hi ρ1 I1 w1 a1 hc1 ht1 hn1 hd1) ?_
  intro e a' w' ⟨T', ρ', I', H', q, hc', ht', hn', hd', ev⟩
  cases e with
  | normal =>
    obtain ⟨k', hk, hi'⟩ := q
    exact ⟨k', hk, T', ρ', I', H', hi', hc', ht', hn', hd', ev1.trans ev⟩
  | exit id => exact ⟨T', ρ', I', H', q, hc', ht', hn', hd', ev1.trans ev⟩
  | goto l => exact ⟨T', ρ', I', H', q, hc', ht', hn', hd', ev1.trans ev⟩
  | ret => exact ⟨T', ρ', I', H', q, hc', ht', hn', hd', ev1.trans ev⟩
  | panic c => exact ⟨T', ρ', I', H', q, hc', ht', hn', hd', ev1.trans ev⟩
  | outgrown => exact ⟨T', ρ', I', H', q, hc', ht', hn', hd', ev1.trans ev⟩

/-! ### Saying less -/

def SubV (a b : AV) : Prop := ∀ ρ I u, CV ρ I a u → CV ρ I b u
theorem SubV.refl (a : AV) : SubV a a := fun _ _ _ h => h
theorem SubV.any (a : AV) : SubV a .any := fun _ _ u _ => .any u
theorem SubV.nil_vec : SubV (.v (.slice none 0 0)) (.vec 0 []) := fun _ _ _ h => by cases h; exact .vec0
theorem SubV.trans {a b c : AV} (h : SubV a b) (k : SubV b c) : SubV a c := fun ρ I u hu => k ρ I u (h ρ I u hu)

def SubT (T T' : Fr) : Prop := ∀ p ∈ T', SubV (look T p.1) p.2

theorem TV.sub {ρ : Rho} {I : Imm} {T T' : Fr} {a : Act} (h : TV ρ I T a) (hs : SubT T T') : TV ρ I T' a := by
  intro i
  induction T' with
  | nil => exact .any _
  | cons p r ih =>
    obtain ⟨j, x⟩ := p
    simp only [look_cons]
    split
    · rename_i e
      subst e
      exact hs (i, x) (by simp) _ _ _ (h i)
    · exact ih fun q hq => hs q (by simp [hq])

theorem SubT.nil (T : Fr) : SubT T [] := fun _ h => by cases h
theorem SubT.cons {T T' : Fr} {j : Nat} {x : AV} (h : SubV (look T j) x) (hs : SubT T T') : SubT T ((j, x) :: T') := by
  intro p hp
  rcases List.mem_cons.1 hp with rfl | hp
  · exact h
  · exact hs p hp
theorem SubT.cons_eq {T T' : Fr} {j : Nat} {x : AV} (h : look T j = x) (hs : SubT T T') : SubT T ((j, x) :: T') := SubT.cons (h ▸ SubV.refl _) hs

theorem AW.sub {c : Code} {T' : Fr} (hs : SubT T T') (h : AW md P c Q T' H n) : AW md P c Q T H n :=
  fun ρ I w a hc ht hn hd => h ρ I w a hc (ht.sub hs) hn hd

structure SubH (H H' : AHeap) : Prop where
  get : ∀ l o, H'.get l = some o → H.get l = some o
  next : H'.next = H.next

theorem Conc.sub {ρ : Rho} {I : Imm} {w : World} {H H' : AHeap} (h : Conc ρ I w H) (hs : SubH H H') : Conc ρ I w H' where
  inj l l' B B' h1 h2 h3 h4 := by
    obtain ⟨o, ho⟩ := Option.isSome_iff_exists.1 h3
    obtain ⟨o', ho'⟩ := Option.isSome_iff_exists.1 h4
    exact h.inj l l' B B' h1 h2 (by simp [hs.get l o ho]) (by simp [hs.get l' o' ho'])
  dom l B hb := by rw [hs.next]; exact h.dom l B hb
  obj l o ho := h.obj l o (hs.get l o ho)
  imm := h.imm
  glob := h.glob

theorem Owned.sub {ρ : Rho} {H H' : AHeap} (hs : SubH H H') {b : Nat} (h : Owned ρ H' b) : Owned ρ H b := by
  obtain ⟨l, B, h1, h2, h3⟩ := h
  obtain ⟨o, ho⟩ := Option.isSome_iff_exists.1 h3
  exact ⟨l, B, h1, h2, by simp [hs.get l o ho]⟩

theorem Ev.sub {ρ : Rho} {I : Imm} {w : World} {H H' : AHeap} (hs : SubH H H') : Ev ρ I w H ρ I w H' :=
  ⟨fun _ _ h => h, fun _ _ h => h, rfl, rfl, rfl, Nat.le_refl _, fun _ _ _ => rfl, fun _ _ h h' => h (h'.sub hs), by rw [hs.next]; exact Nat.le_refl _⟩

theorem AW.cut {x y : Code} (R : Fr → AHeap → Prop) (h : AW md P x (AThen R fun _ _ _ => False) T H n) (k : ∀ T H, R T H → AW md P y Q T H n) : AW md P (.seq x y) Q T H n :=
  .seq (h.mono fun e T H q => by cases e <;> first | exact k T H q | exact q.elim)

end

/-! ### Calls -/

def ACalls (P : Program) (f : FuncId) (args : List AV) (H : AHeap) (R : AV → AHeap → Prop) : Prop :=
  ∀ ρ I w vs, Conc ρ I w H → CVs ρ I args vs → Calls P f vs.toArray w fun e w' =>
    ∃ u r ρ' I' H', e = .returned u ∧ R r H' ∧ CV ρ' I' r u ∧ Conc ρ' I' w' H' ∧ Ev ρ I w H ρ' I' w' H'

theorem ACalls.mono {P : Program} {f : FuncId} {args : List AV} {H : AHeap} {R R' : AV → AHeap → Prop} (h : ACalls P f args H R) (hr : ∀ r H', R r H' → R' r H') : ACalls P f args H R' :=
  fun ρ I w vs hc ha => (h ρ I w vs hc ha).mono fun _ _ ⟨u, r, ρ', I', H', he, q, rest⟩ => ⟨u, r, ρ', I', H', he, hr _ _ q, rest⟩

def initT (args : List AV) : Fr := args.zipIdx.map fun p => (p.2, p.1)

theorem look_initFrom (args : List AV) (k i : Nat) : look ((args.zipIdx k).map fun p => (p.2, p.1)) i = if k ≤ i then args.getD (i - k) .any else .any := by
  induction args generalizing k with
  | nil => simp [look]
  | cons a r ih =>
    simp only [List.zipIdx_cons, List.map_cons, look_cons]
    by_cases h : i = k
    · subst h; simp
    · rw [if_neg h, ih (k + 1)]
      by_cases h1 : k + 1 ≤ i
      · rw [if_pos h1, if_pos (by omega)]
        obtain ⟨j, hj⟩ : ∃ j, i - k = j + 1 := ⟨i - k - 1, by omega⟩
        rw [hj, show i - (k + 1) = j from by omega]
        simp
      · rw [if_neg h1, if_neg (by omega)]

theorem look_init (args : List AV) (i : Nat) : look (initT args) i = args.getD i .any := by
  unfold initT
  rw [look_initFrom]
  simp

theorem initT_tv {ρ : Rho} {I : Imm} {args : List AV} {vs : List Value} (h : CVs ρ I args vs) (m : Nat) : TV ρ I (initT args) { tmps := vs.toArray ++ Array.replicate m undef, defers := [] } := by
  intro i
  rw [look_init]
  by_cases hi : i < args.length
  · have hv : i < vs.length := by rw [h.1]; exact hi
    have := h.2 i args[i] vs[i] (by simp [hi]) (by simp [hv])
    simpa [List.getD, hi, Array.getD_eq_getD_getElem?, Array.getElem?_append, hv] using this
  · simp only [List.getD, List.getElem?_eq_none (Nat.le_of_not_lt hi), Option.getD_none]
    exact .any _

end Go.Ax

/- The abstract layer, part 3: what changes of memory do to 'Conc'; one operation; a list of operations. -/

namespace Go.Ax
set_option linter.unusedSectionVars false
variable [Tabs]
variable {md : Md}

theorem ObjAt.mono {ρ ρ' : Rho} {I I' : Imm} {w w' : World} {B : Blk} {o : AObj} (h : ObjAt ρ I w B o) (hρ : ∀ l B, ρ l = some B → ρ' l = some B) (hI : ∀ b a, I b = some a → I' b = some a)
    (hw : w'.heap[B.b]? = w.heap[B.b]?) : ObjAt ρ' I' w' B o := by
  cases o with
  | cells t cs =>
    obtain ⟨arr, h1, h2, h3, h4⟩ := h
    exact ⟨arr, h1.mono hw, h2, h3, fun i a u ha hu => (h4 i a u ha hu).mono hρ hI⟩
  | map es =>
    obtain ⟨ents, clock, h1, h2, h3, h4, h5⟩ := h
    exact ⟨ents, clock, hw.trans h1, h2, fun i e en he hn => ⟨(h3 i e en he hn).1, (h3 i e en he hn).2.mono hρ hI⟩, h4, h5⟩
  | obj o => exact hw.trans h
  | lp rec cs => exact ⟨hw.trans h.1, fun i a ha => (h.2 i a ha).mono hρ hI⟩
  | smap es st clock =>
    obtain ⟨ents, h1, h2, h3, h4⟩ := h
    exact ⟨ents, hw.trans h1, h2, fun i e en he hn => ⟨(h3 i e en he hn).1, (h3 i e en he hn).2.mono hρ hI⟩, h4⟩
  | iter l since seen last =>
    obtain ⟨B', h1, h2⟩ := h
    exact ⟨B', hρ _ _ h1, hw.trans h2⟩

theorem ObjAt.lt {ρ : Rho} {I : Imm} {w : World} {B : Blk} {o : AObj} (h : ObjAt ρ I w B o) : B.b < w.heap.size := by
  cases o with
  | cells t cs => obtain ⟨arr, h1, _⟩ := h; exact h1.size
  | map es => obtain ⟨ents, clock, h1, _⟩ := h; exact (Array.getElem?_eq_some_iff.1 h1).1
  | obj o => exact (Array.getElem?_eq_some_iff.1 h).1
  | lp rec cs => exact (Array.getElem?_eq_some_iff.1 h.1).1
  | smap es st clock => obtain ⟨ents, h1, _⟩ := h; exact (Array.getElem?_eq_some_iff.1 h1).1
  | iter l since seen last => obtain ⟨B', _, h1⟩ := h; exact (Array.getElem?_eq_some_iff.1 h1).1

theorem Conc.imm_lt {ρ : Rho} {I : Imm} {w : World} {H : AHeap} (hc : Conc ρ I w H) {b : Nat} {arr : Array Value} (h : I b = some arr) : b < w.heap.size := by
  obtain ⟨t, fz, hb⟩ := hc.imm b arr h
  exact (Array.getElem?_eq_some_iff.1 hb).1

theorem Conc.set {ρ : Rho} {I : Imm} {w w' : World} {H : AHeap} (hc : Conc ρ I w H) {l : Nat} {B : Blk} {o o' : AObj} (hl : H.get l = some o) (hB : ρ l = some B)
    (hs : w'.heap.size = w.heap.size) (hk : ∀ k, k ≠ B.b → w'.heap[k]? = w.heap[k]?) (ho : ObjAt ρ I w' B o') (hos : w'.os = w.os) (ht : w'.tape = w.tape) (hout : w'.output = w.output) :
    Conc ρ I w' (H.set l o') ∧ Ev ρ I w H ρ I w' (H.set l o') := by
  have hsome : ∀ k, ((H.set l o').get k).isSome → (H.get k).isSome := by
    intro k hk
    by_cases e : k = l
    · subst e; simp [hl]
    · rwa [AHeap.get_set_ne H o' e] at hk
  have hfree : I B.b = none := by
    obtain ⟨B', hB', hI, _⟩ := hc.obj l o hl
    rw [hB] at hB'; cases hB'; exact hI
  refine ⟨⟨fun a b A B h1 h2 h3 h4 => hc.inj a b A B h1 h2 (hsome a h3) (hsome b h4), hc.dom, ?_, ?_, hc.glob⟩, ⟨fun _ _ h => h, fun _ _ h => h, hos, ht, hout, by rw [hs]; exact Nat.le_refl _, ?_, ?_, Nat.le_refl _⟩⟩
  · intro k q hq
    by_cases e : k = l
    · subst e
      rw [AHeap.get_set_same] at hq
      cases hq
      exact ⟨B, hB, hfree, ho⟩
    · rw [AHeap.get_set_ne H o' e] at hq
      obtain ⟨B', h1, h2, h3⟩ := hc.obj k q hq
      refine ⟨B', h1, h2, h3.mono (fun _ _ h => h) (fun _ _ h => h) (hk _ ?_)⟩
      intro eb
      exact e (hc.inj k l B' B h1 hB (by simp [hq]) (by simp [hl]) eb)
  · intro b arr hb
    obtain ⟨t, fz, h⟩ := hc.imm b arr hb
    refine ⟨t, fz, (hk b ?_).trans h⟩
    rintro rfl
    rw [hb] at hfree; cases hfree
  · intro b hb hn
    refine hk b ?_
    rintro rfl
    exact hn ⟨l, B, hB, rfl, by simp [hl]⟩
  · rintro b hb hn ⟨k, B', h1, h2, h3⟩
    exact hn ⟨k, B', h1, h2, hsome k h3⟩

def Rho.new (ρ : Rho) (l : Nat) (B : Blk) : Rho := fun k => if k = l then some B else ρ k

theorem Conc.new {ρ : Rho} {I : Imm} {w w' : World} {H : AHeap} (hc : Conc ρ I w H) {o : AObj} (sz : Nat) (hs : w'.heap.size = w.heap.size + 1) (hk : ∀ k, k < w.heap.size → w'.heap[k]? = w.heap[k]?)
    (ho : ObjAt (ρ.new H.next ⟨w.heap.size, sz⟩) I w' ⟨w.heap.size, sz⟩ o) (hos : w'.os = w.os) (ht : w'.tape = w.tape) (hout : w'.output = w.output) :
    Conc (ρ.new H.next ⟨w.heap.size, sz⟩) I w' (H.new o) ∧ Ev ρ I w H (ρ.new H.next ⟨w.heap.size, sz⟩) I w' (H.new o) := by
  have hext : ∀ l B, ρ l = some B → ρ.new H.next ⟨w.heap.size, sz⟩ l = some B := by
    intro l B h
    have := hc.dom l B h
    unfold Rho.new
    rw [if_neg (by omega)]
    exact h
  have hold : ∀ l q, l ≠ H.next → (H.new o).get l = some q → ∃ B, ρ l = some B ∧ I B.b = none ∧ ObjAt ρ I w B q := by
    intro l q hl hq
    rw [AHeap.get_new_ne H o hl] at hq
    exact hc.obj l q hq
  refine ⟨⟨?_, ?_, ?_, ?_, hc.globs hext fun _ _ h => h⟩, ⟨hext, fun _ _ h => h, hos, ht, hout, by omega, fun b hb _ => hk b hb, ?_, by simp [AHeap.new]⟩⟩
  · intro l l' B B' h1 h2 h3 h4 he
    obtain ⟨q, hq⟩ := Option.isSome_iff_exists.1 h3
    obtain ⟨q', hq'⟩ := Option.isSome_iff_exists.1 h4
    by_cases e : l = H.next
    · by_cases e' : l' = H.next
      · omega
      · obtain ⟨C, hC, _, hat⟩ := hold l' q' e' hq'
        have hlt := hat.lt
        unfold Rho.new at h1 h2
        rw [if_pos e] at h1
        rw [if_neg e', hC] at h2
        cases h1; cases h2
        simp at he
        omega
    · obtain ⟨C, hC, _, hat⟩ := hold l q e hq
      have hlt := hat.lt
      unfold Rho.new at h1 h2
      rw [if_neg e, hC] at h1
      by_cases e' : l' = H.next
      · rw [if_pos e'] at h2
        cases h1; cases h2
        simp at he
        omega
      · obtain ⟨C', hC', _, _⟩ := hold l' q' e' hq'
        rw [if_neg e', hC'] at h2
        cases h1; cases h2
        rw [AHeap.get_new_ne H o e] at h3
        rw [AHeap.get_new_ne H o e'] at h4
        exact hc.inj l l' _ _ hC hC' h3 h4 he
  · intro l B h
    unfold Rho.new at h
    split at h
    · rename_i e; simp [AHeap.new, e]
    · have := hc.dom l B h; simp [AHeap.new]; omega
  · intro l q hq
    by_cases e : l = H.next
    · subst e
      rw [AHeap.get_new_same] at hq
      cases hq
      refine ⟨⟨w.heap.size, sz⟩, by simp [Rho.new], ?_, ho⟩
      cases hI : I w.heap.size with
      | none => rfl
      | some arr => have := hc.imm_lt hI; omega
    · obtain ⟨B, h1, h2, h3⟩ := hold l q e hq
      exact ⟨B, hext l B h1, h2, h3.mono hext (fun _ _ h => h) (hk _ h3.lt)⟩
  · intro b arr hb
    obtain ⟨t, fz, h⟩ := hc.imm b arr hb
    exact ⟨t, fz, (hk b (hc.imm_lt hb)).trans h⟩
  · rintro b hb hn ⟨l, B, h1, h2, h3⟩
    unfold Rho.new at h1
    split at h1
    · cases h1; simp at h2; omega
    · rename_i e
      rw [AHeap.get_new_ne H o e] at h3
      exact hn ⟨l, B, h1, h2, h3⟩

theorem Conc.of_heap {ρ : Rho} {I : Imm} {w w' : World} {H : AHeap} (hc : Conc ρ I w H) (hh : w'.heap = w.heap) : Conc ρ I w' H :=
  ⟨hc.inj, hc.dom, fun l o ho => let ⟨B, h1, h2, h3⟩ := hc.obj l o ho; ⟨B, h1, h2, h3.mono (fun _ _ h => h) (fun _ _ h => h) (by rw [hh])⟩,
    fun b arr hb => by rw [hh]; exact hc.imm b arr hb, hc.glob⟩
theorem Ev.drew (ρ : Rho) (I : Imm) (w : World) (H : AHeap) : Ev ρ I w H ρ I w.drew H :=
  ⟨fun _ _ h => h, fun _ _ h => h, rfl, rfl, rfl, Nat.le_refl _, fun _ _ _ => rfl, fun _ _ h => h, Nat.le_refl _⟩
theorem Conc.drew {ρ : Rho} {I : Imm} {w : World} {H : AHeap} (hc : Conc ρ I w H) : Conc ρ I w.drew H := hc.of_heap rfl

/-! ### One operation -/

def Post (K : AV → AHeap → Prop) (ρ : Rho) (I : Imm) (w : World) (H : AHeap) (d : Option Tmp) (a : Act) : Act → World → Prop := fun a' w' =>
  ∃ u x ρ' I' H', a' = a.put d u ∧ K x H' ∧ CV ρ' I' x u ∧ Conc ρ' I' w' H' ∧ Ev ρ I w H ρ' I' w' H'

def AStep (P : Program) (o : Oper) (T : Fr) (H : AHeap) (K : AV → AHeap → Prop) : Prop :=
  ∀ ρ I w a, Conc ρ I w H → TV ρ I T a → ∀ Q, o.wpIn Fence.wide 0 P a w (Post K ρ I w H o.dst a) Q

theorem AStep.mono {P : Program} {o : Oper} {T : Fr} {H : AHeap} {K K' : AV → AHeap → Prop} (h : AStep P o T H K) (hk : ∀ x H', K x H' → K' x H') : AStep P o T H K' :=
  fun ρ I w a hc ht Q => Oper.wpIn_mono (fun _ _ ⟨u, x, ρ', I', H', ha, k, r⟩ => ⟨u, x, ρ', I', H', ha, hk _ _ k, r⟩) (h ρ I w a hc ht Q)

theorem AStep.of_run {P : Program} {o : Oper} {T : Fr} {H : AHeap} {K : AV → AHeap → Prop}
    (h : ∀ ρ I w a, Conc ρ I w H → TV ρ I T a → ∃ u w' x ρ' I' H', (execOp a.eval o).run P w = .ok (.value u) w' ∧ K x H' ∧ CV ρ' I' x u ∧ Conc ρ' I' w' H' ∧ Ev ρ I w H ρ' I' w' H') : AStep P o T H K := by
  intro ρ I w a hc ht Q
  obtain ⟨u, w', x, ρ', I', H', hr, hk, hx, hc', ev⟩ := h ρ I w a hc ht
  refine ⟨fun _ _ => trivial, ?_⟩
  rw [Fence.wide_round, Oper.semAt_none, hr]
  exact ⟨u, x, ρ', I', H', rfl, hk, hx, hc', ev⟩

theorem AStep.of_pure {P : Program} {o : Oper} {T : Fr} {H : AHeap} {K : AV → AHeap → Prop} (x : AV) (hk : K x H)
    (h : ∀ ρ I w a, Conc ρ I w H → TV ρ I T a → ∃ u, (execOp a.eval o).run P w = .ok (.value u) w ∧ CV ρ I x u) : AStep P o T H K :=
  .of_run fun ρ I w a hc ht => let ⟨u, hr, hx⟩ := h ρ I w a hc ht; ⟨u, w, x, ρ, I, H, hr, hk, hx, hc, .refl ρ I w H⟩

theorem AStep.of_skip {P : Program} {o : Oper} {T : Fr} {H : AHeap} {K : AV → AHeap → Prop}
    (h : ∀ ρ I w a, Conc ρ I w H → TV ρ I T a → ∃ w' ρ' I' H', (execOp a.eval o).run P w = .ok .skip w' ∧ K .any H' ∧ Conc ρ' I' w' H' ∧ Ev ρ I w H ρ' I' w' H') : AStep P o T H K := by
  intro ρ I w a hc ht Q
  obtain ⟨w', ρ', I', H', hr, hk, hc', ev⟩ := h ρ I w a hc ht
  refine ⟨fun _ _ => trivial, ?_⟩
  rw [Fence.wide_round, Oper.semAt_none, hr]
  exact ⟨undef, .any, ρ', I', H', rfl, hk, .any _, hc', ev⟩

theorem Oper.wpIn_at {P : Program} {o : Oper} {a : Act} {w : World} {K : Act → World → Prop} {Q : Exit → Act → World → Prop} (hnd : ∀ c, o.op ≠ .defer c)
    (h : o.wpIn Fence.wide 0 P a w K Q) : o.wpIn md.F 0 P a w K Q := by
  unfold Oper.wpIn at *
  refine ⟨fun _ _ => trivial, ?_⟩
  rw [Oper.semAt_eq _ _ _ hnd] at h ⊢
  have hh := h.2
  generalize (execOp a.eval o).run P w = r at hh ⊢
  cases r with
  | ok x w' =>
    cases x <;> simp only [Oper.uponIn] at hh ⊢ <;> exact hh
  | halt x w' => cases x <;> simp only [Oper.uponIn] at hh ⊢ <;> exact hh

theorem Act.put_defers_ne (a : Act) (d : Deferred) (t : Option Tmp) (u v : Value) : ({ a with defers := d :: a.defers } : Act).put t v ≠ a.put t u := by
  intro h
  have := congrArg Act.defers h
  rw [put_defers, put_defers] at this
  have := congrArg List.length this
  simp at this

theorem AStep.at {P : Program} {o : Oper} {K : AV → AHeap → Prop} {ρ : Rho} {I : Imm} {w : World} {H : AHeap} {a : Act} (h : ∀ Q, o.wpIn Fence.wide 0 P a w (Post K ρ I w H o.dst a) Q) (Q : Exit → Act → World → Prop) :
    o.wpIn md.F 0 P a w (Post K ρ I w H o.dst a) Q := by
  refine Oper.wpIn_at (fun c hc => ?_) (h Q)
  have h0 := (h fun _ _ _ => False).2
  rw [Fence.wide_round, Oper.semAt_none] at h0
  simp only [execOp, hc, Sem.run_bind] at h0
  cases hr : (resolve a.eval c o.type).run P w with
  | ok d w' =>
    rw [hr] at h0
    simp only [Result.andThen, Sem.run_pure, Oper.uponIn] at h0
    obtain ⟨u, x, ρ', I', H', ha, _⟩ := h0
    exact Act.put_defers_ne a d o.dst u undef ha
  | halt x w' =>
    rw [hr] at h0
    cases x <;> exact h0

/-! ### A list of operations -/

def AL (md : Md) (P : Program) (ops : Array Oper) (Q : APost) (os : List Oper) (T : Fr) (H : AHeap) (n : Nat) : Prop :=
  ∀ ρ0 I0 w0 H0 ρ I w a, Ev ρ0 I0 w0 H0 ρ I w H → Conc ρ I w H → TV ρ I T a → a.tmps.size = n → DOK md ρ w H a.defers → wpListIn md.F 0 P ops (Fin md Q ρ0 I0 w0 H0 n) os a w

def dstB (o : Oper) (n : Nat) : Bool := match o.dst with | some d => decide (d < n) | none => true
theorem dstB_spec {o : Oper} {n : Nat} (h : dstB o n = true) : ∀ t, o.dst = some t → t < n := by
  intro t ht
  simp only [dstB, ht, decide_eq_true_eq] at h
  exact h

section
variable {P : Program} {ops : Array Oper} {Q : APost} {os : List Oper} {T : Fr} {H : AHeap} {n : Nat} {o : Oper}

theorem AW.region {id : Nat} (h : AL md P ops Q ops.toList T H n) : AW md P (.region id ops false) Q T H n :=
  fun ρ I w a hc ht hn hd => wpIn_region_list (h ρ I w H ρ I w a (.refl ρ I w H) hc ht hn hd)

theorem AL.nil (h : Q .normal T H) : AL md P ops Q [] T H n :=
  fun _ _ _ _ ρ I _ _ ev hc ht hn hd => ⟨T, ρ, I, H, h, hc, ht, hn, hd, ev⟩

theorem AL.next {K : AV → AHeap → Prop} {Qc : Exit → Act → World → Prop} {a : Act} {w : World} {ρ : Rho} {I : Imm} {ρ0 : Rho} {I0 : Imm} {w0 : World} {H0 : AHeap} (hd : dstB o n = true)
    (h : AStep P o T H K) (k : ∀ x H', K x H' → AL md P ops Q os (putA T o.dst x) H' n)
    (ev : Ev ρ0 I0 w0 H0 ρ I w H) (hc : Conc ρ I w H) (ht : TV ρ I T a) (hn : a.tmps.size = n) (hde : DOK md ρ w H a.defers) : o.wpIn md.F 0 P a w (wpListIn md.F 0 P ops (Fin md Q ρ0 I0 w0 H0 n) os) Qc := by
  refine Oper.wpIn_mono ?_ (AStep.at (h ρ I w a hc ht) Qc)
  intro a' w' ⟨u, x, ρ', I', H', ha, hk, hx, hc', ev'⟩
  subst ha
  exact k x H' hk ρ0 I0 w0 H0 ρ' I' w' _ (ev.trans ev') hc' ((ht.mono ev'.rho ev'.imm).put (by rw [hn]; exact dstB_spec hd) hx) (by rw [put_size, hn]) (by rw [put_defers]; exact hde.ev ev')

theorem AL.cons {K : AV → AHeap → Prop} (hg : o.guard = none) (hd : dstB o n = true) (h : AStep P o T H K) (k : ∀ x H', K x H' → AL md P ops Q os (putA T o.dst x) H' n) : AL md P ops Q (o :: os) T H n := by
  intro ρ0 I0 w0 H0 ρ I w a ev hc ht hn hde
  unfold wpListIn
  rw [if_pos (by simp [Region.wanted, hg])]
  exact (AL.next hd h k ev hc ht hn hde)

theorem yields {ρ : Rho} {I : Imm} {a : Act} (ht : TV ρ I T a) {j d : Nat} {b : Bool} (hj : (ops[j]?).bind (·.dst) = some d) (hd : d < a.tmps.size) (hb : look T d = .v (.bool b)) : yielded ops a.tmps j = some b := by
  have h := ht d
  rw [hb, Array.getD_eq_getD_getElem?, Array.getElem?_eq_getElem hd] at h
  unfold yielded
  rw [hj]
  simp only [Option.bind_some, Array.getElem?_eq_getElem hd]
  simp only [Option.getD_some] at h
  generalize a.tmps[d] = u at h
  cases h
  rfl

theorem yields_none {ρ : Rho} {I : Imm} {a : Act} (ht : TV ρ I T a) {j d : Nat} (hj : (ops[j]?).bind (·.dst) = some d) (hb : look T d = .v undef) : yielded ops a.tmps j = none := by
  have h := ht d
  rw [hb] at h
  unfold yielded
  rw [hj]
  simp only [Option.bind_some]
  rw [Array.getD_eq_getD_getElem?] at h
  cases hg : a.tmps[d]? with
  | none => rfl
  | some u =>
    rw [hg] at h
    simp only [Option.getD_some] at h
    cases h
    rfl
end
end Go.Ax

/- The abstract layer, part 4: what the model knows of types, as a table; operations on values, loads, stores, new variables. -/

namespace Go.Ax
set_option linter.unusedSectionVars false
variable [Tabs]

structure TI where
  und : TypeDesc
  agg : Bool
  size : Nat
  bytes : Nat
  zero : Value
  ok : Bool

def aggOf : TypeDesc → Bool
  | .struct _ | .array _ _ => true
  | _ => false

structure OkT (P : Program) (t : TypeId) (i : TI) : Prop where
  und : P.underlying t = some i.und
  info : ∃ f, P.info? t = some f ∧ f.zero = some i.zero ∧ f.size = i.size ∧ f.bytes = i.bytes
  agg : i.agg = aggOf i.und
  zs : i.zero.cells.size = i.size

def TOk (P : Program) (TT : Nat → TI) : Prop := ∀ t, (TT t).ok = true → OkT P t (TT t)

section
variable {P : Program} {t : TypeId} {i : TI} (h : OkT P t i) (w : World)
include h
theorem OkT.run_und : (underlying t).run P w = .ok i.und w := run_underlying h.und w
theorem OkT.run_info : ∃ f, (typeInfo t).run P w = .ok f w ∧ f.zero = some i.zero ∧ f.size = i.size ∧ f.bytes = i.bytes := by
  obtain ⟨f, hf, r⟩ := h.info
  exact ⟨f, by simp [typeInfo, hf], r⟩
theorem OkT.run_size : (sizeOf t).run P w = .ok i.size w := by
  obtain ⟨f, hf, _, hs, _⟩ := h.run_info w
  simp [sizeOf, hf, hs]
theorem OkT.run_zero : (zeroValue t).run P w = .ok i.zero w := by
  obtain ⟨f, hf, hz, _⟩ := h.run_info w
  simp [zeroValue, hf, hz]
theorem OkT.run_agg : (isAgg t).run P w = .ok i.agg w := by
  unfold isAgg
  rw [Sem.run_bind, h.run_und w, h.agg]
  simp only [Result.andThen]
  cases i.und <;> rfl
end

def AStepD (P : Program) (o : Oper) (T : Fr) (H : AHeap) (x : AV) (H1 : AHeap) : Prop := AStep P o T H fun y H' => y = x ∧ H' = H1

section
variable {P : Program} {o : Oper} {T : Fr} {H : AHeap}

theorem AStepD.of_pure {x : AV} (h : ∀ ρ I w a, Conc ρ I w H → TV ρ I T a → ∃ u, (execOp a.eval o).run P w = .ok (.value u) w ∧ CV ρ I x u) : AStepD P o T H x H :=
  AStep.of_pure x ⟨rfl, rfl⟩ h

theorem AStepD.move {x : Operand} (ho : o.op = .move x) : AStepD P o T H (aev T x) H :=
  .of_pure fun ρ I w a _ ht => ⟨a.eval x, by simp [execOp, ho], aev_cv ht x⟩
theorem AStepD.assign {x : Operand} (ho : o.op = .assign x) : AStepD P o T H (aev T x) H :=
  .of_pure fun ρ I w a _ ht => ⟨a.eval x, by simp [execOp, ho], aev_cv ht x⟩

theorem cv_bool {ρ : Rho} {I : Imm} {b : Bool} {u : Value} (h : CV ρ I (.v (.bool b)) u) : u = .bool b := by cases h; rfl
theorem cv_v {ρ : Rho} {I : Imm} {x u : Value} (h : CV ρ I (.v x) u) : u = x := by cases h; rfl

theorem aev_eq {ρ : Rho} {I : Imm} {a : Act} (ht : TV ρ I T a) {x : Operand} {y : AV} (h : aev T x = y) : CV ρ I y (a.eval x) := h ▸ aev_cv ht x

theorem AStepD.pick {c x y : Operand} (ho : o.op = .pick c x y) (b : Bool) (hc : aev T c = .v (.bool b)) (r : AV) (h1 : b = true → SubV (aev T x) r) (h2 : b = false → SubV (aev T y) r) : AStepD P o T H r H := by
  refine .of_pure fun ρ I w a _ ht => ?_
  have hb := cv_bool (aev_eq ht hc)
  refine ⟨if b then a.eval x else a.eval y, by cases b <;> simp [execOp, ho, hb, asBool], ?_⟩
  cases b with
  | true => exact h1 rfl _ _ _ (aev_cv ht x)
  | false => exact h2 rfl _ _ _ (aev_cv ht y)

theorem SubV.of_cond {g : Bool} {x : AV} (h : g = true) : SubV (.cond g x) x := fun _ _ _ hu => by cases hu with | cond hu _ => exact hu h

theorem AStepD.and {c x y : Operand} (ho : o.op = .pick c x y) (p q g : Bool) (hc : aev T c = .v (.bool p)) (hx : aev T x = .cond g (.v (.bool q))) (hg : p = true → g = true) (hy : aev T y = .v (.bool false)) :
    AStepD P o T H (.v (.bool (p && q))) H :=
  .pick ho p hc _ (fun h => by rw [hx, h]; exact .of_cond (hg h)) (fun h => by rw [hy, h]; exact .refl _)
theorem AStepD.and' {c x y : Operand} (ho : o.op = .pick c x y) (p q : Bool) (hc : aev T c = .v (.bool p)) (hx : aev T x = .v (.bool q)) (hy : aev T y = .v (.bool false)) :
    AStepD P o T H (.v (.bool (p && q))) H :=
  .pick ho p hc _ (fun h => by rw [hx, h]; exact .refl _) (fun h => by rw [hy, h]; exact .refl _)
theorem AStepD.or {c x y : Operand} (ho : o.op = .pick c x y) (p q g : Bool) (hc : aev T c = .v (.bool p)) (hx : aev T x = .v (.bool true)) (hy : aev T y = .cond g (.v (.bool q))) (hg : p = false → g = true) :
    AStepD P o T H (.v (.bool (p || q))) H :=
  .pick ho p hc _ (fun h => by rw [hx, h]; exact .refl _) (fun h => by rw [hy, h]; exact .of_cond (hg h))
theorem AStepD.or' {c x y : Operand} (ho : o.op = .pick c x y) (p q : Bool) (hc : aev T c = .v (.bool p)) (hx : aev T x = .v (.bool true)) (hy : aev T y = .v (.bool q)) :
    AStepD P o T H (.v (.bool (p || q))) H :=
  .pick ho p hc _ (fun h => by rw [hx, h]; exact .refl _) (fun h => by rw [hy, h]; exact .refl _)
theorem AStepD.pick_true {c x y : Operand} (ho : o.op = .pick c x y) (hc : aev T c = .v (.bool true)) : AStepD P o T H (aev T x) H :=
  .pick ho true hc _ (fun _ => .refl _) (fun h => by cases h)
theorem AStepD.pick_false {c x y : Operand} (ho : o.op = .pick c x y) (hc : aev T c = .v (.bool false)) : AStepD P o T H (aev T y) H :=
  .pick ho false hc _ (fun h => by cases h) (fun _ => .refl _)

/-! ### Cells -/

theorem add_none (b o j : Nat) : (⟨b, o, none⟩ : Addr).add j = ⟨b, o + j, none⟩ := by
  unfold Addr.add
  split
  · rename_i h; subst h; rfl
  · rfl

theorem cell_of {w : World} {b : Nat} {arr : Array Value} {t : TypeId} {fz : Nat × Nat} (h : w.heap[b]? = some (.cells arr t fz)) (o : Nat) : w.cell? ⟨b, o, none⟩ = arr[o]? := by
  simp [World.cell?, h]

def wrapA (agg : Bool) (cs : List AV) : AV := if agg then .agg cs else cs.headD .any

theorem run_loadVar {t : TypeId} {i : TI} (hT : OkT P t i) {w : World} {b off : Nat} {vs : List Value} (hl : vs.length = i.size) (h1 : i.agg = false → i.size = 1)
    (hc : ∀ (j : Nat) u, vs[j]? = some u → w.cell? ⟨b, off + j, none⟩ = some u) : (loadVar t ⟨b, off, none⟩).run P w = .ok (if i.agg then .agg vs.toArray else vs.headD undef) w := by
  unfold loadVar
  rw [Sem.run_bind, hT.run_agg w]
  simp only [Result.andThen]
  cases ha : i.agg with
  | true =>
    simp only [if_true, Sem.run_bind, hT.run_size w, Result.andThen, ← hl]
    rw [run_loadCells_list (P := P) w ⟨b, off, none⟩ vs (fun j v hv => by rw [add_none]; exact hc j v hv)]
    simp
  | false =>
    have h := h1 ha
    rw [h] at hl
    obtain ⟨u, rfl⟩ := List.length_eq_one_iff.1 hl
    have := hc 0 u rfl
    simp only [Nat.add_zero] at this
    simp [this]

theorem cv_wrap {ρ : Rho} {I : Imm} {agg : Bool} {cs : List AV} {vs : List Value} (hl : vs.length = cs.length) (hv : ∀ (i : Nat) a u, cs[i]? = some a → vs[i]? = some u → CV ρ I a u) (h1 : agg = false → cs.length = 1) :
    CV ρ I (wrapA agg cs) (if agg then .agg vs.toArray else vs.headD undef) := by
  cases agg with
  | true => exact .agg hl hv
  | false =>
    have h := h1 rfl
    rw [h] at hl
    obtain ⟨u, rfl⟩ := List.length_eq_one_iff.1 hl
    obtain ⟨x, rfl⟩ := List.length_eq_one_iff.1 h
    exact hv 0 x u rfl rfl

theorem obj_stretch {ρ : Rho} {I : Imm} {w : World} {B : Blk} {ty : TypeId} {cs : List AV} (h : ObjAt ρ I w B (.cells ty cs)) {off k : Nat} (hk : off + k ≤ cs.length) :
    ∃ vs : List Value, vs.length = k ∧ (∀ (j : Nat) u, vs[j]? = some u → w.cell? ⟨B.b, off + j, none⟩ = some u) ∧ ∀ (j : Nat) a u, ((cs.drop off).take k)[j]? = some a → vs[j]? = some u → CV ρ I a u := by
  obtain ⟨arr, h1, h2, h3, h4⟩ := h
  refine ⟨(arr.toList.drop off).take k, by simp; omega, fun j u hu => ?_, fun j a u ha hu => ?_⟩
  · rw [h1.cell]
    rw [List.getElem?_take] at hu
    split at hu
    · rw [List.getElem?_drop] at hu; simpa using hu
    · cases hu
  · rw [List.getElem?_take] at hu ha
    split at hu
    · rename_i hj
      rw [if_pos hj] at ha
      rw [List.getElem?_drop] at hu ha
      exact h4 _ a u ha (by simpa using hu)
    · cases hu

variable {TT : Nat → TI} (hT : TOk P TT)

include hT in
theorem AStepD.load_ptr {t : TypeId} {x : Operand} {l off : Nat} {ty : TypeId} {cs : List AV} (ho : o.op = .load t x) (hx : aev T x = .ptr l off) (hok : (TT t).ok = true) (hH : H.get l = some (.cells ty cs))
    (hk : off + (TT t).size ≤ cs.length) (h1 : (TT t).agg = false → (TT t).size = 1) : AStepD P o T H (wrapA (TT t).agg ((cs.drop off).take (TT t).size)) H := by
  refine .of_pure fun ρ I w a hc ht => ?_
  have hv := aev_eq ht hx
  obtain ⟨B, hB, _, hat⟩ := hc.obj l _ hH
  obtain ⟨vs, hl, hcell, hcv⟩ := obj_stretch hat hk
  have he : a.eval x = .pointer (some ⟨B.b, off, none⟩) := by
    generalize a.eval x = u at hv
    cases hv with | ptr h => rw [hB] at h; cases h; rfl
  refine ⟨_, ?_, cv_wrap (by simp [hl]; omega) hcv (by intro e; have := h1 e; simp; omega)⟩
  simp only [execOp, ho, Instr.loadAt, Instr.sureAddr, he, Sem.run_bind, Sem.run_pure, Result.andThen]
  rw [run_loadVar (hT t hok) hl h1 hcell]

include hT in
theorem AStepD.load_ip {t : TypeId} {x : Operand} {cs : List AV} (ho : o.op = .load t x) (hx : aev T x = .ip cs) (hok : (TT t).ok = true)
    (hk : (TT t).size ≤ cs.length) (h1 : (TT t).agg = false → (TT t).size = 1) : AStepD P o T H (wrapA (TT t).agg (cs.take (TT t).size)) H := by
  refine .of_pure fun ρ I w a hc ht => ?_
  have hv := aev_eq ht hx
  generalize he : a.eval x = u at hv
  cases hv with
  | @ip _ b off arr vs h hl hcc hvv =>
    obtain ⟨ty, fz, hb⟩ := hc.imm b arr h
    refine ⟨_, ?_, cv_wrap (vs := vs.take (TT t).size) (by simp [hl]) (fun j a u ha hu => ?_) (by intro e; have := h1 e; simp; omega)⟩
    · simp only [execOp, ho, Instr.loadAt, Instr.sureAddr, he, Sem.run_bind, Sem.run_pure, Result.andThen]
      rw [run_loadVar (hT t hok) (vs := vs.take (TT t).size) (by simp; omega) h1 (fun j u hu => ?_)]
      rw [cell_of hb]
      rw [List.getElem?_take] at hu
      split at hu
      · exact hcc j u hu
      · cases hu
    · rw [List.getElem?_take] at hu ha
      split at hu
      · rename_i hj; rw [if_pos hj] at ha; exact hvv j a u ha hu
      · cases hu

/-! ### Stores -/

def AV.one : AV → Bool
  | .v x => x.oneCell'
  | .ptr .. | .ip _ | .sl .. | .slc .. | .slx .. | .vec .. | .map _ | .func .. | .iface .. => true
  | _ => false

theorem one_cell {ρ : Rho} {I : Imm} {a : AV} {u : Value} (h : CV ρ I a u) (h1 : a.one = true) : u.oneCell' = true := by
  cases h <;> first | rfl | exact h1 | (simp [AV.one] at h1)

def AV.cells : AV → List AV
  | .agg cs => cs
  | x => [x]

theorem cells_cv {ρ : Rho} {I : Imm} {a : AV} {u : Value} (h : CV ρ I a u) (h1 : ∀ x ∈ a.cells, x.one = true) : u.cells.toList.length = a.cells.length ∧ (∀ (i : Nat) x y, a.cells[i]? = some x → u.cells.toList[i]? = some y → CV ρ I x y) ∧ ∀ y ∈ u.cells.toList, y.oneCell' = true := by
  by_cases hg : ∃ cs, a = .agg cs
  · obtain ⟨cs, rfl⟩ := hg
    cases h with
    | @agg _ vs hl hv =>
      refine ⟨by simpa [AV.cells, Value.cells] using hl, by simpa [AV.cells, Value.cells] using hv, ?_⟩
      intro y hy
      simp only [Value.cells] at hy
      obtain ⟨i, hi⟩ := List.mem_iff_getElem?.1 hy
      have hlt : i < cs.length := by rw [← hl]; exact (List.getElem?_eq_some_iff.1 hi).1
      exact one_cell (hv i cs[i] y (by simp [hlt]) hi) (h1 _ (by simp [AV.cells]))
  · have hc : a.cells = [a] := by cases a <;> first | rfl | exact (hg ⟨_, rfl⟩).elim
    have ho := one_cell h (h1 a (by simp [hc]))
    have hu : u.cells = #[u] := by cases u <;> first | rfl | (simp [Value.oneCell'] at ho)
    rw [hc, hu]
    refine ⟨rfl, fun i x y hx hy => ?_, fun y hy => by simp at hy; subst hy; exact ho⟩
    match i with
    | 0 => simp at hx hy; subst hx; subst hy; exact h
    | i + 1 => simp at hx

def over (cs : List AV) (off : Nat) (xs : List AV) : List AV := cs.take off ++ xs ++ cs.drop (off + xs.length)

theorem over_length {cs : List AV} {off : Nat} {xs : List AV} (h : off + xs.length ≤ cs.length) : (over cs off xs).length = cs.length := by
  simp [over]; omega

theorem Conc.over {ρ : Rho} {I : Imm} {w : World} (hc : Conc ρ I w H) {l off : Nat} {ty : TypeId} {cs xs : List AV} {us : List Value} (hH : H.get l = some (.cells ty cs)) (hlen : us.length = xs.length)
    (hv : ∀ (i : Nat) x u, xs[i]? = some x → us[i]? = some u → CV ρ I x u) (hk : off + xs.length ≤ cs.length) :
    ∃ B arr, ρ l = some B ∧ CellsAt w B.b arr ty ∧ off + us.length ≤ arr.size ∧
      Conc ρ I (w.setRow B.b (arr.toList.take off ++ us ++ arr.toList.drop (off + us.length)).toArray) (H.set l (.cells ty (Ax.over cs off xs))) ∧
      Ev ρ I w H ρ I (w.setRow B.b (arr.toList.take off ++ us ++ arr.toList.drop (off + us.length)).toArray) (H.set l (.cells ty (Ax.over cs off xs))) := by
  obtain ⟨B, hB, _, arr, h1, h2, h3, h4⟩ := hc.obj l _ hH
  refine ⟨B, arr, hB, h1, by omega, ?_⟩
  refine hc.set hH hB (by simp) (fun k hk => setRow_other w B.b k _ hk) ?_ rfl rfl rfl
  refine ⟨_, h1.row (by simp; omega), by simp; omega, by rw [over_length hk]; simp; omega, fun i a u ha hu => ?_⟩
  simp only [Ax.over, List.append_assoc, List.getElem?_toArray] at ha hu
  by_cases hi : i < off
  · rw [List.getElem?_append_left (by simp; omega), List.getElem?_take, if_pos hi] at ha hu
    exact h4 i a u ha (by simpa using hu)
  · rw [List.getElem?_append_right (by simp; omega)] at ha hu
    simp only [List.length_take, Array.length_toList] at ha hu
    rw [show min off cs.length = off by omega] at ha
    rw [show min off arr.size = off by omega] at hu
    by_cases hj : i - off < xs.length
    · rw [List.getElem?_append_left hj] at ha
      rw [List.getElem?_append_left (by omega)] at hu
      exact hv _ a u ha hu
    · rw [List.getElem?_append_right (by omega)] at ha
      rw [List.getElem?_append_right (by omega)] at hu
      rw [List.getElem?_drop] at ha hu
      refine h4 i a u ?_ ?_
      · rw [← ha]; congr 1; omega
      · rw [Array.getElem?_toList, hlen] at hu; rw [← hu]; congr 1; omega

include hT in
theorem AStepD.store {t : TypeId} {x y : Operand} {l off : Nat} {ty : TypeId} {cs xs : List AV} (ho : o.op = .store t x y) (hx : aev T x = .ptr l off) (hok : (TT t).ok = true) (hH : H.get l = some (.cells ty cs))
    (hy : (aev T y).cells = xs) (hone : ∀ x ∈ xs, x.one = true) (hs : xs.length = (TT t).size) (hk : off + xs.length ≤ cs.length) : AStepD P o T H .any (H.set l (.cells ty (over cs off xs))) := by
  refine AStep.of_skip fun ρ I w a hc ht => ?_
  have hv := aev_eq ht hx
  obtain ⟨hl, hcv, h1⟩ := cells_cv (aev_cv ht y) (by rw [hy]; exact hone)
  rw [hy] at hl hcv
  obtain ⟨B, arr, hB, hb, hfit, hc', ev⟩ := hc.over hH hl hcv hk
  have he : a.eval x = .pointer (some ⟨B.b, off, none⟩) := by
    generalize a.eval x = u at hv
    cases hv with | ptr h => rw [hB] at h; cases h; rfl
  refine ⟨_, ρ, I, _, ?_, ⟨rfl, rfl⟩, hc', ev⟩
  simp only [execOp, ho, Instr.storeAt, Instr.sureAddr, he, Sem.run_bind, Sem.run_pure, Result.andThen, storeVar, (hT t hok).run_size w]
  rw [if_neg (by simp at hl ⊢; omega)]
  have := hb.run_store (P := P) (o := off) (a.eval y).cells.toList 0 (by simpa using hfit) h1
  simp only [Nat.add_zero] at this
  rw [this]

/-! ### New variables -/

theorem Conc.alloc {ρ : Rho} {I : Imm} {w : World} (hc : Conc ρ I w H) {ty : TypeId} {cs : List AV} {arr : Array Value} (hl : cs.length ≤ arr.size)
    (hv : ∀ (i : Nat) x u, cs[i]? = some x → arr[i]? = some u → CV ρ I x u) :
    Conc (ρ.new H.next ⟨w.heap.size, arr.size⟩) I (w.alloc (.cells arr ty)) (H.new (.cells ty cs)) ∧ Ev ρ I w H (ρ.new H.next ⟨w.heap.size, arr.size⟩) I (w.alloc (.cells arr ty)) (H.new (.cells ty cs)) := by
  refine hc.new arr.size (by simp) (fun k hk => RowKit.Below.heap_alloc w _ k hk) ⟨arr, CellsAt.of (heap_alloc_new w _), rfl, hl, fun i x u hx hu => ?_⟩ rfl rfl rfl
  refine (hv i x u hx hu).mono (fun l B h => ?_) (fun _ _ h => h)
  have := hc.dom l B h
  unfold Rho.new
  rw [if_neg (by omega)]
  exact h

theorem new_cv {ρ : Rho} {I : Imm} (l : Nat) (B : Blk) (off : Nat) : CV (ρ.new l B) I (.ptr l off) (.pointer (some ⟨B.b, off, none⟩)) := .ptr (by simp [Rho.new])

theorem AStepD.box {t : TypeId} {x : Operand} {cs : List AV} (ho : o.op = .box t x) (hx : (aev T x).cells = cs) (hone : ∀ x ∈ cs, x.one = true) : AStepD P o T H (.ptr H.next 0) (H.new (.cells t cs)) := by
  refine AStep.of_run fun ρ I w a hc ht => ?_
  obtain ⟨hl, hcv, h1⟩ := cells_cv (aev_cv ht x) (by rw [hx]; exact hone)
  rw [hx] at hl hcv
  obtain ⟨hc', ev⟩ := hc.alloc (ty := t) (cs := cs) (arr := (a.eval x).cells) (by simp at hl; omega) (fun i x u hx hu => hcv i x u hx (by simpa using hu))
  refine ⟨_, _, _, _, _, _, ?_, ⟨rfl, rfl⟩, new_cv H.next _ 0, hc', ev⟩
  simp [execOp, ho, Instr.box, newVar, newRow, newObj, Sem.run]

def AV.ofV (x : Value) : List AV := x.cells.toList.map .v

include hT in
theorem AStepD.alloc {t : TypeId} (ho : o.op = .alloc t) (hok : (TT t).ok = true) : AStepD P o T H (.ptr H.next 0) (H.new (.cells t (AV.ofV (TT t).zero))) := by
  refine AStep.of_run fun ρ I w a hc ht => ?_
  obtain ⟨hc', ev⟩ := hc.alloc (ty := t) (cs := AV.ofV (TT t).zero) (arr := (TT t).zero.cells) (by simp [AV.ofV]) (fun i x u hx hu => by
    simp only [AV.ofV, List.getElem?_map, Array.getElem?_toList, hu, Option.map_some, Option.some.injEq] at hx
    subst hx
    exact .v u)
  refine ⟨_, _, _, _, _, _, ?_, ⟨rfl, rfl⟩, new_cv H.next _ 0, hc', ev⟩
  simp [execOp, ho, Instr.alloc, (hT t hok).run_zero w, newVar, newRow, newObj, Sem.run]

theorem AStepD.nilCheck {x : Operand} (ho : o.op = .nilCheck x) (hx : (∃ l off, aev T x = .ptr l off) ∨ (∃ cs, aev T x = .ip cs) ∨ (∃ f cs, aev T x = .func (.func f) cs)) : AStepD P o T H (aev T x) H := by
  refine .of_pure fun ρ I w a _ ht => ⟨a.eval x, ?_, aev_cv ht x⟩
  have hv := aev_cv ht x
  generalize he : a.eval x = u at hv
  rcases hx with ⟨l, off, hx⟩ | ⟨cs, hx⟩ | ⟨f, cs, hx⟩ <;> (rw [hx] at hv; cases hv; simp [execOp, ho, he])

theorem run_fieldPlace {s : TypeId} {i : TI} (hi : OkT P s i) {w : World} (b off : Nat) (f : Field) (hf : f.type = s) (h0 : i.size ≠ 0) : (fieldPlace ⟨b, off, none⟩ f).run P w = .ok ⟨b, off + f.offset, none⟩ w := by
  subst hf
  simp [fieldPlace, hi.run_size w, h0, add_none]

include hT in
theorem AStepD.fieldAddr {s : TypeId} {x : Operand} {k l off : Nat} {fs : Array Field} {f : Field} (ho : o.op = .fieldAddr s x k) (hx : aev T x = .ptr l off) (hok : (TT s).ok = true) (hs : (TT s).und = .struct fs) (hf : fs[k]? = some f)
    (hokf : (TT f.type).ok = true) (h0 : (TT f.type).size ≠ 0) : AStepD P o T H (.ptr l (off + f.offset)) H := by
  refine .of_pure fun ρ I w a _ ht => ?_
  have hv := aev_eq ht hx
  generalize he : a.eval x = u at hv
  cases hv with
  | @ptr _ _ B h =>
    refine ⟨_, ?_, .ptr h⟩
    simp [execOp, ho, Instr.fieldAt, (hT s hok).run_und w, hs, hf, Instr.sureAddr, he, run_fieldPlace (hT _ hokf) _ _ f rfl h0]

include hT in
theorem AStepD.fieldAddr_ip {s : TypeId} {x : Operand} {k : Nat} {cs : List AV} {fs : Array Field} {f : Field} (ho : o.op = .fieldAddr s x k) (hx : aev T x = .ip cs) (hok : (TT s).ok = true) (hs : (TT s).und = .struct fs) (hf : fs[k]? = some f)
    (hokf : (TT f.type).ok = true) (h0 : (TT f.type).size ≠ 0) : AStepD P o T H (.ip (cs.drop f.offset)) H := by
  refine .of_pure fun ρ I w a _ ht => ?_
  have hv := aev_eq ht hx
  generalize he : a.eval x = u at hv
  cases hv with
  | @ip _ b off arr vs h hl hcc hvv =>
    refine ⟨_, ?_, .ip (vs := vs.drop f.offset) h (by simp [hl]) (off := off + f.offset) (fun i u hu => ?_) (fun i a u ha hu => ?_)⟩
    · simp [execOp, ho, Instr.fieldAt, (hT s hok).run_und w, hs, hf, Instr.sureAddr, he, run_fieldPlace (hT _ hokf) _ _ f rfl h0]
    · rw [List.getElem?_drop] at hu; rw [Nat.add_assoc]; exact hcc _ u hu
    · rw [List.getElem?_drop] at hu ha; exact hvv _ a u ha hu

theorem run_part {t : TypeId} {i : TI} (hi : OkT P t i) {w : World} {vs : List Value} {off : Nat} (hk : off + i.size ≤ vs.length) (h1 : i.agg = false → i.size = 1) :
    (part t vs.toArray off).run P w = .ok (if i.agg then .agg ((vs.drop off).take i.size).toArray else ((vs.drop off).take i.size).headD undef) w := by
  unfold part
  rw [Sem.run_bind, hi.run_agg w]
  simp only [Result.andThen]
  cases ha : i.agg with
  | true =>
    simp only [if_true, Sem.run_bind, hi.run_size w, Result.andThen]
    simp [List.extract_toArray, List.extract_eq_take_drop]
  | false =>
    have h := h1 ha
    have hlt : off < vs.length := by omega
    simp [h, hlt, List.take_one, List.head?_drop]

include hT in
theorem AStepD.field {s : TypeId} {x : Operand} {k : Nat} {cs : List AV} {fs : Array Field} {f : Field} (ho : o.op = .field s x k) (hx : aev T x = .agg cs) (hok : (TT s).ok = true) (hs : (TT s).und = .struct fs) (hf : fs[k]? = some f)
    (hokf : (TT f.type).ok = true) (hk : f.offset + (TT f.type).size ≤ cs.length) (h1 : (TT f.type).agg = false → (TT f.type).size = 1) : AStepD P o T H (wrapA (TT f.type).agg ((cs.drop f.offset).take (TT f.type).size)) H := by
  refine .of_pure fun ρ I w a _ ht => ?_
  have hv := aev_eq ht hx
  generalize he : a.eval x = u at hv
  cases hv with
  | @agg _ vs hl hvv =>
    refine ⟨_, ?_, cv_wrap (vs := (vs.drop f.offset).take (TT f.type).size) (by simp; omega) (fun i a u ha hu => ?_) (by intro e; have := h1 e; simp; omega)⟩
    · simp only [execOp, ho, Instr.field, Sem.run_bind, (hT s hok).run_und w, hs, Result.andThen, hf, asAgg, he, Sem.run_pure]
      rw [run_part (hT _ hokf) (by omega) h1]
    · rw [List.getElem?_take] at hu ha
      split at hu
      · rename_i hj; rw [if_pos hj] at ha
        rw [List.getElem?_drop] at hu ha
        exact hvv _ a u ha hu
      · cases hu

theorem AStepD.extract {x : Operand} {k : Nat} {cs : List AV} {y : AV} (ho : o.op = .extract x k) (hx : aev T x = .tup cs) (hk : cs[k]? = some y) : AStepD P o T H y H := by
  refine .of_pure fun ρ I w a _ ht => ?_
  have hv := aev_eq ht hx
  generalize he : a.eval x = u at hv
  cases hv with
  | @tup _ vs hl hvv =>
    have hlt : k < vs.length := by rw [hl]; exact (List.getElem?_eq_some_iff.1 hk).1
    refine ⟨vs[k], ?_, hvv k y _ hk (by simp [hlt])⟩
    simp [execOp, ho, Instr.extract, he, hlt]
end
end Go.Ax

/- The abstract layer, part 5: operators and conversions of plain values. -/

namespace Go.Ax
set_option linter.unusedSectionVars false
variable [Tabs]

section
variable {P : Program} {o : Oper} {T : Fr} {H : AHeap}

theorem run_guard_int (op : BinOp) (t : TypeId) (x y : Operand) (k k' : IntKind) (a b : Int) (w : World) : (eqGuard op t x y (.int k a) (.int k' b)).run P w = .ok () w := by
  cases op <;> simp [eqGuard]
theorem run_guard_string (op : BinOp) (t : TypeId) (x y : Operand) (a b : ByteArray) (w : World) : (eqGuard op t x y (.string a) (.string b)).run P w = .ok () w := by
  cases op <;> simp [eqGuard]
theorem run_guard_bool (op : BinOp) (t : TypeId) (x y : Operand) (a b : Bool) (w : World) : (eqGuard op t x y (.bool a) (.bool b)).run P w = .ok () w := by
  cases op <;> simp [eqGuard]

theorem AStepD.bin_int {op : BinOp} {t yt : TypeId} {x y : Operand} {k : IntKind} {a b : Int} {r : Value} (ho : o.op = .binOp op t x y yt) (hx : aev T x = .v (.int k a)) (hy : aev T y = .v (.int k b))
    (hr : ∀ w, (binOp op t (.int k a) (.int k b)).run P w = .ok r w) : AStepD P o T H (.v r) H := by
  refine .of_pure fun ρ I w a' _ ht => ⟨r, ?_, .v r⟩
  have e1 := cv_v (aev_eq ht hx)
  have e2 := cv_v (aev_eq ht hy)
  simp only [execOp, ho, Sem.run_bind, e1, e2, run_guard_int, Result.andThen, hr, Sem.run_pure]

section ints
variable {t yt : TypeId} {x y : Operand} {k : IntKind} {a b r : Int}
theorem AStepD.add (ho : o.op = .binOp .add t x y yt) (hx : aev T x = .v (.int k a)) (hy : aev T y = .v (.int k b)) (hr : k.wrap (a + b) = r) : AStepD P o T H (.v (.int k r)) H :=
  .bin_int ho hx hy fun w => by simp [binOp, Op.intArith, hr]
theorem AStepD.sub (ho : o.op = .binOp .sub t x y yt) (hx : aev T x = .v (.int k a)) (hy : aev T y = .v (.int k b)) (hr : k.wrap (a - b) = r) : AStepD P o T H (.v (.int k r)) H :=
  .bin_int ho hx hy fun w => by simp [binOp, Op.intArith, hr]
theorem AStepD.mul (ho : o.op = .binOp .mul t x y yt) (hx : aev T x = .v (.int k a)) (hy : aev T y = .v (.int k b)) (hr : k.wrap (a * b) = r) : AStepD P o T H (.v (.int k r)) H :=
  .bin_int ho hx hy fun w => by simp [binOp, Op.intArith, hr]
theorem AStepD.eql (ho : o.op = .binOp .eql t x y yt) (hx : aev T x = .v (.int k a)) (hy : aev T y = .v (.int k b)) : AStepD P o T H (.v (.bool (decide (a = b)))) H :=
  .bin_int ho hx hy fun w => by simp [binOp, Op.intCmp]; by_cases h : a = b <;> simp [h]
theorem AStepD.neq (ho : o.op = .binOp .neq t x y yt) (hx : aev T x = .v (.int k a)) (hy : aev T y = .v (.int k b)) : AStepD P o T H (.v (.bool (decide (a ≠ b)))) H :=
  .bin_int ho hx hy fun w => by simp [binOp, Op.intCmp]; by_cases h : a = b <;> simp [h]
theorem AStepD.lss (ho : o.op = .binOp .lss t x y yt) (hx : aev T x = .v (.int k a)) (hy : aev T y = .v (.int k b)) : AStepD P o T H (.v (.bool (decide (a < b)))) H :=
  .bin_int ho hx hy fun w => by simp [binOp, Op.intCmp]
theorem AStepD.leq (ho : o.op = .binOp .leq t x y yt) (hx : aev T x = .v (.int k a)) (hy : aev T y = .v (.int k b)) : AStepD P o T H (.v (.bool (decide (a ≤ b)))) H :=
  .bin_int ho hx hy fun w => by simp [binOp, Op.intCmp]
theorem AStepD.gtr (ho : o.op = .binOp .gtr t x y yt) (hx : aev T x = .v (.int k a)) (hy : aev T y = .v (.int k b)) : AStepD P o T H (.v (.bool (decide (b < a)))) H :=
  .bin_int ho hx hy fun w => by simp [binOp, Op.intCmp]
theorem AStepD.geq (ho : o.op = .binOp .geq t x y yt) (hx : aev T x = .v (.int k a)) (hy : aev T y = .v (.int k b)) : AStepD P o T H (.v (.bool (decide (b ≤ a)))) H :=
  .bin_int ho hx hy fun w => by simp [binOp, Op.intCmp]

def bitsOf (op : BinOp) (n : Nat) (a b : BitVec n) : BitVec n :=
  match op with
  | .and => a &&& b
  | .or => a ||| b
  | .xor => a ^^^ b
  | _ => a &&& ~~~b
theorem AStepD.bits {op : BinOp} (ho : o.op = .binOp op t x y yt) (hop : op = .and ∨ op = .or ∨ op = .xor ∨ op = .andNot) (hx : aev T x = .v (.int k a)) (hy : aev T y = .v (.int k b))
    (hr : k.wrap (bitsOf op k.bits (BitVec.ofInt k.bits a) (BitVec.ofInt k.bits b)).toNat = r) : AStepD P o T H (.v (.int k r)) H :=
  .bin_int ho hx hy fun w => by rcases hop with rfl | rfl | rfl | rfl <;> simp [binOp, Op.intBits, ← hr, bitsOf]
end ints

theorem AStepD.shl {t yt : TypeId} {x y : Operand} {k yk : IntKind} {a b r : Int} (ho : o.op = .binOp .shl t x y yt) (hx : aev T x = .v (.int k a)) (hy : aev T y = .v (.int yk b)) (h0 : 0 ≤ b) (hr : k.wrap (a * 2 ^ min b.toNat k.bits) = r) :
    AStepD P o T H (.v (.int k r)) H := by
  refine .of_pure fun ρ I w a' _ ht => ⟨_, ?_, .v _⟩
  have e1 := cv_v (aev_eq ht hx)
  have e2 := cv_v (aev_eq ht hy)
  simp only [execOp, ho, Sem.run_bind, e1, e2, run_guard_int, Result.andThen, Sem.run_pure]
  simp [binOp, Op.shift, show ¬ b < 0 by omega, hr]
theorem AStepD.shr {t yt : TypeId} {x y : Operand} {k yk : IntKind} {a b r : Int} (ho : o.op = .binOp .shr t x y yt) (hx : aev T x = .v (.int k a)) (hy : aev T y = .v (.int yk b)) (h0 : 0 ≤ b) (hr : a.fdiv (2 ^ min b.toNat k.bits) = r) :
    AStepD P o T H (.v (.int k r)) H := by
  refine .of_pure fun ρ I w a' _ ht => ⟨_, ?_, .v _⟩
  have e1 := cv_v (aev_eq ht hx)
  have e2 := cv_v (aev_eq ht hy)
  simp only [execOp, ho, Sem.run_bind, e1, e2, run_guard_int, Result.andThen, Sem.run_pure]
  simp [binOp, Op.shift, show ¬ b < 0 by omega, hr]

theorem AStepD.bin_str {op : BinOp} {t yt : TypeId} {x y : Operand} {a b : ByteArray} {r : Value} (ho : o.op = .binOp op t x y yt) (hx : aev T x = .v (.string a)) (hy : aev T y = .v (.string b))
    (hr : ∀ w, (binOp op t (.string a) (.string b)).run P w = .ok r w) : AStepD P o T H (.v r) H := by
  refine .of_pure fun ρ I w a' _ ht => ⟨r, ?_, .v r⟩
  have e1 := cv_v (aev_eq ht hx)
  have e2 := cv_v (aev_eq ht hy)
  simp only [execOp, ho, Sem.run_bind, e1, e2, run_guard_string, Result.andThen, hr, Sem.run_pure]
theorem bytes_beq (a b : ByteArray) : (a.toList == b.toList) = decide (a.data.toList = b.data.toList) := by
  rw [ByteArray.toList_eq a, ByteArray.toList_eq b]
  by_cases h : a.data.toList = b.data.toList
  · rw [h]; simp
  · rw [decide_eq_false h]
    exact beq_eq_false_iff_ne.2 h
theorem AStepD.str_eql {t yt : TypeId} {x y : Operand} {a b : ByteArray} (ho : o.op = .binOp .eql t x y yt) (hx : aev T x = .v (.string a)) (hy : aev T y = .v (.string b)) : AStepD P o T H (.v (.bool (decide (a.data.toList = b.data.toList)))) H :=
  .bin_str ho hx hy fun w => by simp only [binOp, Op.stringOp, Sem.run_pure, bytes_beq]
theorem AStepD.str_neq {t yt : TypeId} {x y : Operand} {a b : ByteArray} (ho : o.op = .binOp .neq t x y yt) (hx : aev T x = .v (.string a)) (hy : aev T y = .v (.string b)) : AStepD P o T H (.v (.bool (decide (a.data.toList ≠ b.data.toList)))) H :=
  .bin_str ho hx hy fun w => by simp only [binOp, Op.stringOp, Sem.run_pure, bytes_beq]; by_cases h : a.data.toList = b.data.toList <;> simp [h]
theorem AStepD.str_add {t yt : TypeId} {x y : Operand} {a b : ByteArray} (ho : o.op = .binOp .add t x y yt) (hx : aev T x = .v (.string a)) (hy : aev T y = .v (.string b)) (hs : a.size + b.size ≤ 9223372036854775807) : AStepD P o T H (.v (.string (a ++ b))) H :=
  .bin_str ho hx hy fun w => by
    have : ¬ (((a.size + b.size : Nat) : Int) > IntKind.i64.max) := by simp [IntKind.max, IntKind.signed, IntKind.bits]; omega
    simp only [binOp, Op.stringOp, if_neg this, Sem.run_pure]

theorem AStepD.not {t : TypeId} {x : Operand} {b : Bool} (ho : o.op = .unOp .not t x) (hx : aev T x = .v (.bool b)) : AStepD P o T H (.v (.bool (!b))) H :=
  .of_pure fun ρ I w a' _ ht => ⟨_, by simp [execOp, ho, Op.unary, cv_v (aev_eq ht hx)], .v _⟩
theorem AStepD.neg {t : TypeId} {x : Operand} {k : IntKind} {a r : Int} (ho : o.op = .unOp .neg t x) (hx : aev T x = .v (.int k a)) (hr : k.wrap (0 - a) = r) : AStepD P o T H (.v (.int k r)) H :=
  .of_pure fun ρ I w a' _ ht => ⟨_, by simp only [execOp, ho, Op.unary, cv_v (aev_eq ht hx), Op.intArith, hr, Sem.run_bind, Sem.run_pure, Result.andThen], .v _⟩

variable {TT : Nat → TI} (hT : TOk P TT)
include hT

omit hT in
theorem AStepD.eq_of {t yt : TypeId} {x y : Operand} {b : Bool}
    (h : ∀ ρ I w a, Conc ρ I w H → TV ρ I T a → (∀ op, (eqGuard op t x y (a.eval x) (a.eval y)).run P w = .ok () w) ∧ (∀ d, (Op.equalIn (d + 1) t (a.eval x) (a.eval y)).run P w = .ok b w) ∧
      (binOp .eql t (a.eval x) (a.eval y) = (do pure (.bool (← Op.equal t (a.eval x) (a.eval y))))) ∧ (binOp .neq t (a.eval x) (a.eval y) = (do pure (.bool (!(← Op.equal t (a.eval x) (a.eval y))))))) :
    (o.op = .binOp .eql t x y yt → AStepD P o T H (.v (.bool b)) H) ∧ (o.op = .binOp .neq t x y yt → AStepD P o T H (.v (.bool (!b))) H) := by
  refine ⟨fun ho => .of_pure fun ρ I w a hc ht => ?_, fun ho => .of_pure fun ρ I w a hc ht => ?_⟩ <;> obtain ⟨h1, h2, h3, h4⟩ := h ρ I w a hc ht
  · have h5 := h2 9999
    refine ⟨_, ?_, .v _⟩
    simp only [execOp, ho, Sem.run_bind, h1, Result.andThen, h3, Op.equal, Op.maxDepth, h5, Sem.run_pure]
  · have h5 := h2 9999
    refine ⟨_, ?_, .v _⟩
    simp only [execOp, ho, Sem.run_bind, h1, Result.andThen, h4, Op.equal, Op.maxDepth, h5, Sem.run_pure]

theorem AStepD.bool_eq {t yt : TypeId} {x y : Operand} {a b : Bool} (hx : aev T x = .v (.bool a)) (hy : aev T y = .v (.bool b)) (hok : (TT t).ok = true) (hu : (TT t).und = .bool) :
    (o.op = .binOp .eql t x y yt → AStepD P o T H (.v (.bool (a == b))) H) ∧ (o.op = .binOp .neq t x y yt → AStepD P o T H (.v (.bool (!(a == b)))) H) := by
  refine AStepD.eq_of fun ρ I w a' _ ht => ?_
  rw [cv_v (aev_eq ht hx), cv_v (aev_eq ht hy)]
  refine ⟨fun op => run_guard_bool op t x y a b w, fun d => ?_, rfl, rfl⟩
  simp [Op.equalIn, (hT t hok).run_und w, hu]

theorem AStepD.ptr_nil {t yt e : TypeId} {x y : Operand} (hx : (∃ l off, aev T x = .ptr l off) ∨ ∃ cs, aev T x = .ip cs) (hy : aev T y = .v (.pointer none)) (hok : (TT t).ok = true) (hu : (TT t).und = .pointer e) :
    (o.op = .binOp .eql t x y yt → AStepD P o T H (.v (.bool false)) H) ∧ (o.op = .binOp .neq t x y yt → AStepD P o T H (.v (.bool true)) H) := by
  refine AStepD.eq_of fun ρ I w a' _ ht => ?_
  have hv := aev_cv ht x
  rw [cv_v (aev_eq ht hy)]
  obtain ⟨p, hp⟩ : ∃ p, a'.eval x = .pointer (some p) := by
    generalize a'.eval x = u at hv
    rcases hx with ⟨l, off, h⟩ | ⟨cs, h⟩ <;> (rw [h] at hv; cases hv; exact ⟨_, rfl⟩)
  rw [hp]
  refine ⟨fun op => by cases op <;> simp [eqGuard], fun d => ?_, rfl, rfl⟩
  simp [Op.equalIn, (hT t hok).run_und w, hu]
theorem AStepD.nil_nil {t yt e : TypeId} {x y : Operand} (hx : aev T x = .v (.pointer none)) (hy : aev T y = .v (.pointer none)) (hok : (TT t).ok = true) (hu : (TT t).und = .pointer e) :
    (o.op = .binOp .eql t x y yt → AStepD P o T H (.v (.bool true)) H) ∧ (o.op = .binOp .neq t x y yt → AStepD P o T H (.v (.bool false)) H) := by
  refine AStepD.eq_of fun ρ I w a' _ ht => ?_
  rw [cv_v (aev_eq ht hy), cv_v (aev_eq ht hx)]
  refine ⟨fun op => by cases op <;> simp [eqGuard], fun d => ?_, rfl, rfl⟩
  simp [Op.equalIn, (hT t hok).run_und w, hu]

theorem AStepD.iface_nil {t yt u : TypeId} {x y : Operand} {z : AV} {ms : Array (String × TypeId)} (hx : aev T x = .iface u z) (hy : aev T y = .v .nilIface) (hok : (TT t).ok = true) (hu : (TT t).und = .interface ms) :
    (o.op = .binOp .eql t x y yt → AStepD P o T H (.v (.bool false)) H) ∧ (o.op = .binOp .neq t x y yt → AStepD P o T H (.v (.bool true)) H) := by
  refine AStepD.eq_of fun ρ I w a' _ ht => ?_
  have hv := aev_eq ht hx
  rw [cv_v (aev_eq ht hy)]
  generalize a'.eval x = q at hv
  cases hv with
  | iface h =>
  refine ⟨fun op => by cases op <;> simp [eqGuard], fun d => ?_, rfl, rfl⟩
  simp [Op.equalIn, (hT t hok).run_und w, hu]
theorem AStepD.nilIface_nil {t yt : TypeId} {x : Operand} {ms : Array (String × TypeId)} {c : Value} (hx : aev T x = .v .nilIface) (hc : c = .nilIface) (hok : (TT t).ok = true) (hu : (TT t).und = .interface ms) :
    (o.op = .binOp .eql t x (.const c) yt → AStepD P o T H (.v (.bool true)) H) ∧ (o.op = .binOp .neq t x (.const c) yt → AStepD P o T H (.v (.bool false)) H) := by
  subst hc
  refine AStepD.eq_of fun ρ I w a' _ ht => ?_
  rw [cv_v (aev_eq ht hx)]
  refine ⟨fun op => by cases op <;> simp [eqGuard, Act.eval], fun d => ?_, rfl, rfl⟩
  simp [Op.equalIn, (hT t hok).run_und w, hu, Act.eval]

theorem AStepD.convert_int {s d : TypeId} {x : Operand} {k k' : IntKind} {a r : Int} (ho : o.op = .convert s d x) (hx : aev T x = .v (.int k a)) (hok : (TT s).ok = true) (hokd : (TT d).ok = true) (hu : (TT d).und = .int k') (hr : k'.wrap a = r) :
    AStepD P o T H (.v (.int k' r)) H := by
  refine .of_pure fun ρ I w a' _ ht => ⟨_, ?_, .v _⟩
  simp only [execOp, ho, Sem.run_bind, convert, (hT s hok).run_und w, (hT d hokd).run_und w, hu, Result.andThen, cv_v (aev_eq ht hx), Conv.intToInt, Sem.run_pure, hr]
theorem AStepD.convert_str {s d : TypeId} {x : Operand} {a : ByteArray} (ho : o.op = .convert s d x) (hx : aev T x = .v (.string a)) (hok : (TT s).ok = true) (hokd : (TT d).ok = true) (hus : (TT s).und = .string) (hu : (TT d).und = .string) :
    AStepD P o T H (.v (.string a)) H := by
  refine .of_pure fun ρ I w a' _ ht => ⟨_, ?_, .v _⟩
  simp only [execOp, ho, Sem.run_bind, convert, (hT s hok).run_und w, (hT d hokd).run_und w, hu, hus, Result.andThen, cv_v (aev_eq ht hx), Sem.run_pure]
end
end Go.Ax

/- The abstract layer, part 6: slices, arrays, strings: cutting, indexing, lengths, literals. -/

namespace Go.Ax
set_option linter.unusedSectionVars false
variable [Tabs]

def boundE (T : Fr) (x : Option Operand) (dflt : Int) : Int :=
  match x with
  | none => dflt
  | some y => match aev T y with
    | .v (.int _ e) => e
    | _ => -1

section
variable {P : Program} {o : Oper} {T : Fr} {H : AHeap}

theorem run_bound {ρ : Rho} {I : Imm} {a : Act} (ht : TV ρ I T a) {x : Option Operand} {d l : Nat} (h : boundE T x d = (l : Int)) (y : Nat) (hy : l ≤ y) (code : BoundsCode) (w : World) :
    (match x.map a.eval with | some v => Instr.sliceBound v y code | none => pure d).run P w = .ok l w := by
  cases x with
  | none =>
    simp only [boundE] at h
    have : d = l := by omega
    subst this
    rfl
  | some z =>
    simp only [boundE] at h
    have hv := aev_cv ht z
    obtain ⟨k, e, hq⟩ : ∃ k e, aev T z = .v (.int k e) := by
      generalize aev T z = q at h
      split at h
      · exact ⟨_, _, rfl⟩
      · omega
    rw [hq] at h hv
    simp only at h
    subst h
    have := cv_v hv
    simp only [Option.map_some, this, Instr.sliceBound, asIntOf, Sem.run_bind, Sem.run_pure, Result.andThen]
    rw [if_pos (by omega)]
    simp

theorem run_bounds {ρ : Rho} {I : Imm} {a : Act} (ht : TV ρ I T a) {lo hi : Option Operand} {len cap l h : Nat} (hlo : boundE T lo (0 : Nat) = (l : Int)) (hhi : boundE T hi (len : Nat) = (h : Int)) (h1 : l ≤ h) (h2 : h ≤ cap) (isS : Bool) (w : World) :
    (Instr.sliceBounds isS len cap (lo.map a.eval) (hi.map a.eval) none).run P w = .ok (l, h, cap) w := by
  have e1 := run_bound (P := P) ht hhi cap h2 (if isS then .sliceAcap else .sliceAlen) w
  have e2 := run_bound (P := P) ht hlo h h1 .sliceB w
  unfold Instr.sliceBounds
  cases hi <;> cases lo <;> simp at e1 e2 ⊢ <;> simp [e1, e2]

variable {TT : Nat → TI} (hT : TOk P TT)
include hT

theorem run_sliceAt {ρ : Rho} {I : Imm} {a : Act} (ht : TV ρ I T a) {t e : TypeId} (hok : (TT t).ok = true) (hoke : (TT e).ok = true) (hu : (TT t).und = .slice e) {lo hi : Option Operand} {p : Option Addr} {len cap l h : Nat}
    (hlo : boundE T lo (0 : Nat) = (l : Int)) (hhi : boundE T hi (len : Nat) = (h : Int)) (h1 : l ≤ h) (h2 : h ≤ cap) (w : World) :
    (Instr.sliceAt t (.slice p len cap) (lo.map a.eval) (hi.map a.eval) ((none : Option Operand).map a.eval)).run P w = .ok (.slice (if cap = l then p else p.map (·.add (l * (TT e).size))) (h - l) (cap - l)) w := by
  simp [Instr.sliceAt, Instr.slice, (hT t hok).run_und w, hu, run_bounds ht hlo hhi h1 h2, (hT e hoke).run_size w]

theorem AStepD.slice_sl {t e : TypeId} {x : Operand} {lo hi : Option Operand} {ll off len k l h : Nat} (ho : o.op = .slice t x lo hi none) (hx : aev T x = .sl ll off len k) (hok : (TT t).ok = true) (hoke : (TT e).ok = true) (hu : (TT t).und = .slice e) (hk : (TT e).size = k)
    (hlo : boundE T lo (0 : Nat) = (l : Int)) (hhi : boundE T hi (len : Nat) = (h : Int)) (h1 : l ≤ h) (h2 : h ≤ len) : AStepD P o T H (if l = len ∧ 0 < l then .vec 0 [] else .sl ll (off + l * k) (h - l) k) H := by
  subst hk
  refine .of_pure fun ρ I w a _ ht => ?_
  have hv := aev_eq ht hx
  generalize he : a.eval x = u at hv
  cases hv with
  | @sl _ _ _ _ c B hB hl hm hs =>
    refine ⟨_, by simp only [execOp, ho, Sem.run_bind, he, run_sliceAt hT ht hok hoke hu hlo hhi h1 (Nat.le_trans h2 hl) w, Result.andThen, Sem.run_pure]; rfl, ?_⟩
    by_cases hcl : l = len ∧ 0 < l
    · rw [if_pos hcl, show h - l = 0 by omega]
      exact .vec0
    · rw [if_neg hcl]
      by_cases hl0 : c = l
      · have : l = 0 := by omega
        subst this
        rw [if_pos hl0]
        simp only [Nat.zero_mul, Nat.add_zero, Nat.sub_zero]
        exact .sl hB (by omega) hm hs
      · rw [if_neg hl0]
        simp only [Option.map_some, add_none]
        refine .sl hB (by omega) (by omega) ?_
        have : (c - l) * (TT e).size + l * (TT e).size = c * (TT e).size := by rw [← Nat.add_mul]; congr 1; omega
        omega

theorem AStepD.slice_str {t : TypeId} {x : Operand} {lo hi : Option Operand} {l h : Nat} {s : ByteArray} (ho : o.op = .slice t x lo hi none) (hx : aev T x = .v (.string s)) (hok : (TT t).ok = true) (hu : (TT t).und = .string)
    (hlo : boundE T lo (0 : Nat) = (l : Int)) (hhi : boundE T hi (s.size : Nat) = (h : Int)) (h1 : l ≤ h) (h2 : h ≤ s.size) : AStepD P o T H (.v (.string (s.extract l h))) H := by
  refine .of_pure fun ρ I w a _ ht => ⟨_, ?_, .v _⟩
  have hv := cv_v (aev_eq ht hx)
  simp [execOp, ho, hv, Instr.sliceAt, Instr.slice, (hT t hok).run_und w, hu, run_bounds ht hlo hhi h1 h2]

theorem AStepD.slice_arr {t e : TypeId} {x : Operand} {lo hi : Option Operand} {ll off n l h k : Nat} {ty : TypeId} {cs : List AV} (ho : o.op = .slice t x lo hi none) (hx : aev T x = .ptr ll off) (hok : (TT t).ok = true) (hoke : (TT e).ok = true) (hu : (TT t).und = .array n e) (hk : (TT e).size = k)
    (hH : H.get ll = some (.cells ty cs)) (hfit : off + n * k ≤ cs.length) (hn : n ≤ maxLen) (hlo : boundE T lo (0 : Nat) = (l : Int)) (hhi : boundE T hi (n : Nat) = (h : Int)) (h1 : l ≤ h) (h2 : h ≤ n) (hl : l < n) : AStepD P o T H (.sl ll (off + l * k) (h - l) k) H := by
  subst hk
  refine .of_pure fun ρ I w a hc ht => ?_
  have hv := aev_eq ht hx
  obtain ⟨B, hB, _, arr, _, h3, h4, _⟩ := hc.obj ll _ hH
  generalize he : a.eval x = u at hv
  cases hv with
  | ptr hB' =>
    rw [hB] at hB'; cases hB'
    refine ⟨_, by simp [execOp, ho, he, Instr.sliceAt, (hT t hok).run_und w, hu, Instr.sureAddr, run_bounds ht hlo hhi h1 h2, (hT e hoke).run_size w]; rfl, ?_⟩
    rw [if_neg (by omega)]
    rw [add_none]
    refine .sl hB (by omega) (by omega) ?_
    have : (n - l) * (TT e).size + l * (TT e).size = n * (TT e).size := by rw [← Nat.add_mul]; congr 1; omega
    omega

/-! ### Indexing -/

theorem run_indexAt {t e : TypeId} (hok : (TT t).ok = true) (hoke : (TT e).ok = true) (hu : (TT t).und = .slice e) {b off len cap i : Nat} (hi : i < len) (k : IntKind) (w : World) :
    (Instr.indexAt t (.slice (some ⟨b, off, none⟩) len cap) (.int k (i : Int))).run P w = .ok (.pointer (some ⟨b, off + i * (TT e).size, none⟩)) w := by
  simp [Instr.indexAt, asIntOf, (hT t hok).run_und w, hu, (hT e hoke).run_size w, add_none, hi]

theorem AStepD.indexAddr_vec {t e : TypeId} {x y : Operand} {n i : Nat} {k : IntKind} {j : Int} {cs : List AV} (ho : o.op = .indexAddr t x y) (hx : aev T x = .vec n cs) (hy : aev T y = .v (.int k j)) (hok : (TT t).ok = true) (hoke : (TT e).ok = true) (hu : (TT t).und = .slice e)
    (hj : j = (i : Int)) (hi : i < n) : AStepD P o T H (.ip (cs.drop (i * (TT e).size))) H := by
  subst hj
  refine .of_pure fun ρ I w a _ ht => ?_
  have hv := aev_eq ht hx
  have hyv := cv_v (aev_eq ht hy)
  generalize he : a.eval x = u at hv
  cases hv with
  | vec0 => omega
  | @vec _ c _ b off arr vs hn hm hI hl hc hvv =>
    refine ⟨_, by simp only [execOp, ho, Sem.run_bind, he, hyv, run_indexAt hT hok hoke hu hi, Result.andThen, Sem.run_pure]; rfl, ?_⟩
    refine .ip (vs := vs.drop (i * (TT e).size)) hI (by simp [hl]) (fun q u hq => ?_) (fun q a u ha hq => ?_)
    · rw [List.getElem?_drop] at hq; rw [Nat.add_assoc]; exact hc _ u hq
    · rw [List.getElem?_drop] at hq ha; exact hvv _ a u ha hq

theorem AStepD.indexAddr_sl {t e : TypeId} {x y : Operand} {ll off len kk i : Nat} {k : IntKind} {j : Int} (ho : o.op = .indexAddr t x y) (hx : aev T x = .sl ll off len kk) (hy : aev T y = .v (.int k j)) (hok : (TT t).ok = true) (hoke : (TT e).ok = true) (hu : (TT t).und = .slice e)
    (hkk : (TT e).size = kk) (hj : j = (i : Int)) (hi : i < len) : AStepD P o T H (.ptr ll (off + i * kk)) H := by
  subst hj; subst hkk
  refine .of_pure fun ρ I w a _ ht => ?_
  have hv := aev_eq ht hx
  have hyv := cv_v (aev_eq ht hy)
  generalize he : a.eval x = u at hv
  cases hv with
  | sl hB _ _ _ =>
    exact ⟨_, by simp only [execOp, ho, Sem.run_bind, he, hyv, run_indexAt hT hok hoke hu hi, Result.andThen, Sem.run_pure], .ptr hB⟩

theorem AStepD.indexAddr_arr {t e : TypeId} {x y : Operand} {ll off n kk i : Nat} {k : IntKind} {j : Int} (ho : o.op = .indexAddr t x y) (hx : aev T x = .ptr ll off) (hy : aev T y = .v (.int k j)) (hok : (TT t).ok = true) (hoke : (TT e).ok = true) (hu : (TT t).und = .array n e)
    (hkk : (TT e).size = kk) (hj : j = (i : Int)) (hi : i < n) : AStepD P o T H (.ptr ll (off + i * kk)) H := by
  subst hj; subst hkk
  refine .of_pure fun ρ I w a _ ht => ?_
  have hv := aev_eq ht hx
  have hyv := cv_v (aev_eq ht hy)
  generalize he : a.eval x = u at hv
  cases hv with
  | ptr hB =>
    refine ⟨_, ?_, .ptr hB⟩
    simp [execOp, ho, he, hyv, Instr.indexAt, asIntOf, (hT t hok).run_und w, hu, Instr.sureAddr, (hT e hoke).run_size w, add_none, hi]

theorem AStepD.index_arr {t e : TypeId} {x y : Operand} {cs : List AV} {n i : Nat} {k : IntKind} {j : Int} (ho : o.op = .index t x y) (hx : aev T x = .agg cs) (hy : aev T y = .v (.int k j)) (hok : (TT t).ok = true) (hoke : (TT e).ok = true) (hu : (TT t).und = .array n e)
    (hj : j = (i : Int)) (hi : i < n) (hk : i * (TT e).size + (TT e).size ≤ cs.length) (h1 : (TT e).agg = false → (TT e).size = 1) : AStepD P o T H (wrapA (TT e).agg ((cs.drop (i * (TT e).size)).take (TT e).size)) H := by
  subst hj
  refine .of_pure fun ρ I w a _ ht => ?_
  have hv := aev_eq ht hx
  generalize he : a.eval x = u at hv
  cases hv with
  | @agg _ vs hl hvv =>
    refine ⟨_, ?_, cv_wrap (vs := (vs.drop (i * (TT e).size)).take (TT e).size) (by simp; omega) (fun q a u ha hu => ?_) (by intro e; have := h1 e; simp; omega)⟩
    · simp only [execOp, ho, Sem.run_bind, he, cv_v (aev_eq ht hy), Instr.index, asIntOf, Sem.run_pure, Result.andThen, (hT t hok).run_und w, hu]
      rw [if_pos (by omega)]
      simp only [Sem.run_bind, (hT e hoke).run_size w, Result.andThen, Int.toNat_natCast]
      rw [run_part (hT e hoke) (by omega) h1]
    · rw [List.getElem?_take] at hu ha
      split at hu
      · rename_i hj; rw [if_pos hj] at ha
        rw [List.getElem?_drop] at hu ha
        exact hvv _ a u ha hu
      · cases hu

/-! ### len -/

omit hT in
theorem run_builtin {b : Builtin} {args : Array Operand} {ats : Array TypeId} (ho : o.op = .call { callee := .builtin b, args := args, argTypes := ats }) (a : Act) (w : World) {u : Value} {w' : World}
    (h : (builtin b ats o.type (args.map fun | .const _ => true | _ => false) (args.map a.eval)).run P w = .ok (.value u) w') : (execOp a.eval o).run P w = .ok (.value u) w' := by
  simp only [execOp, ho, resolve, Sem.run_bind, Sem.run_pure, Result.andThen, invoke]
  exact h

def lenA : AV → Option Nat
  | .v (.string s) => some s.size
  | .v (.slice _ n _) => some n
  | .vec n _ => some n
  | .sl _ _ n _ => some n
  | .slc _ _ n _ _ => some n
  | .slx _ _ n _ _ => some n
  | _ => none

omit hT in
theorem lenA_v {z : Value} {n : Nat} (h : lenA (.v z) = some n) : (∃ s, z = .string s ∧ s.size = n) ∨ ∃ p c, z = .slice p n c := by
  cases z <;> simp_all [lenA]

theorem AStepD.len {t : TypeId} {x : Operand} {n : Nat} (ho : o.op = .call { callee := .builtin .len, args := #[x], argTypes := #[t] }) (hok : (TT t).ok = true) (hu : (TT t).und = .string ∨ ∃ e, (TT t).und = .slice e) (hx : lenA (aev T x) = some n)
    (hk : (TT t).und = .string ↔ ∃ s, aev T x = .v (.string s)) : AStepD P o T H (.v (.int .i64 (n : Int))) H := by
  refine .of_pure fun ρ I w a _ ht => ⟨_, run_builtin ho a w ?_, .v _⟩
  have hv := aev_cv ht x
  have hund := (hT t hok).run_und w
  have key : (∃ s, a.eval x = .string s ∧ s.size = n ∧ (TT t).und = .string) ∨ (∃ p c e, a.eval x = .slice p n c ∧ (TT t).und = .slice e) := by
    generalize a.eval x = u at hv
    generalize aev T x = q at hv hx hk
    cases hv with
    | v z =>
      rcases lenA_v hx with ⟨s, rfl, hs⟩ | ⟨p, c, rfl⟩
      · exact .inl ⟨s, rfl, hs, hk.2 ⟨s, rfl⟩⟩
      · rcases hu with hu | ⟨e, hu⟩
        · obtain ⟨s, hs⟩ := hk.1 hu; cases hs
        · exact .inr ⟨_, _, e, rfl, hu⟩
    | any | ptr | ip | map | func | agg | tup | iface | yld | num | cond => simp [lenA] at hx
    | vec0 | vec | sl | slc | slx =>
      simp only [lenA, Option.some.injEq] at hx
      subst hx
      rcases hu with hu | ⟨e, hu⟩
      · obtain ⟨s, hs⟩ := hk.1 hu; cases hs
      · exact .inr ⟨_, _, e, rfl, hu⟩
  rcases key with ⟨s, h1, h2, h3⟩ | ⟨p, c, e, h1, h2⟩
  · simp [builtin, Builtin.len_, hund, h1, h3, h2, goInt]
  · simp [builtin, Builtin.len_, hund, h1, h2, goInt]

theorem AStepD.len_arr {t e : TypeId} {x : Operand} {n : Nat} (ho : o.op = .call { callee := .builtin .len, args := #[x], argTypes := #[t] }) (hok : (TT t).ok = true) (hu : (TT t).und = .array n e) : AStepD P o T H (.v (.int .i64 (n : Int))) H :=
  .of_pure fun ρ I w a _ ht => ⟨_, run_builtin ho a w (by simp [builtin, Builtin.len_, (hT t hok).run_und w, hu, goInt]), .v _⟩

omit hT in
theorem AStepD.min2 {ts : Array TypeId} {x y : Operand} {k : IntKind} {a b r : Int} (ho : o.op = .call { callee := .builtin .min, args := #[x, y], argTypes := ts }) (hx : aev T x = .v (.int k a)) (hy : aev T y = .v (.int k b)) (hr : (if b < a then b else a) = r) : AStepD P o T H (.v (.int k r)) H :=
  .of_pure fun ρ I w a' _ ht => ⟨_, run_builtin ho a' w (by simp [builtin, Builtin.min_, Builtin.min2, cv_v (aev_eq ht hx), cv_v (aev_eq ht hy), hr]), .v _⟩
omit hT in
theorem AStepD.max2 {ts : Array TypeId} {x y : Operand} {k : IntKind} {a b r : Int} (ho : o.op = .call { callee := .builtin .max, args := #[x, y], argTypes := ts }) (hx : aev T x = .v (.int k a)) (hy : aev T y = .v (.int k b)) (hr : (if a < b then b else a) = r) : AStepD P o T H (.v (.int k r)) H :=
  .of_pure fun ρ I w a' _ ht => ⟨_, run_builtin ho a' w (by simp [builtin, Builtin.max_, Builtin.max2, cv_v (aev_eq ht hx), cv_v (aev_eq ht hy), hr]), .v _⟩
end
end Go.Ax

/- The abstract layer, part 7: append, literals, closures, calls, the begin and the end of a function, freezing. -/

namespace Go.Ax
set_option linter.unusedSectionVars false
variable [Tabs]
variable {md : Md}

theorem AHeap.get_lt {ρ : Rho} {I : Imm} {w : World} {H : AHeap} (hc : Conc ρ I w H) {l : Nat} {o : AObj} (h : H.get l = some o) : l < H.next := by
  obtain ⟨B, hB, _⟩ := hc.obj l o h
  exact hc.dom l B hB

theorem AW.lt {P : Program} {c : Code} {Q : APost} {T : Fr} {H : AHeap} {n l : Nat} {o : AObj} (h : H.get l = some o) (k : l < H.next → AW md P c Q T H n) : AW md P c Q T H n :=
  fun ρ I w a hc ht hn hd => k (AHeap.get_lt hc h) ρ I w a hc ht hn hd
theorem ACalls.lt {P : Program} {f : FuncId} {args : List AV} {R : AV → AHeap → Prop} {H : AHeap} {l : Nat} {o : AObj} (h : H.get l = some o) (k : l < H.next → ACalls P f args H R) : ACalls P f args H R :=
  fun ρ I w vs hc ha => k (AHeap.get_lt hc h) ρ I w vs hc ha

theorem Conc.rename {ρ : Rho} {I : Imm} {w : World} {H : AHeap} (hc : Conc ρ I w H) {l : Nat} {o : AObj} {B : Blk} (hl : H.get l = some o) (hB : ρ l = some B) :
    Conc (ρ.new H.next B) I w ((H.new o).del l) ∧ Ev ρ I w H (ρ.new H.next B) I w ((H.new o).del l) := by
  have hlt := AHeap.get_lt hc hl
  have hext : ∀ l' B', ρ l' = some B' → ρ.new H.next B l' = some B' := by
    intro l' B' h
    have := hc.dom l' B' h
    unfold Rho.new
    rw [if_neg (by omega)]
    exact h
  have hgo : ∀ k, k ≠ H.next → k ≠ l → ((H.new o).del l).get k = H.get k := fun k h1 h2 => by rw [AHeap.get_del_ne _ h2, AHeap.get_new_ne _ _ h1]
  have hgn : ((H.new o).del l).get H.next = some o := by rw [AHeap.get_del_ne _ (by omega), AHeap.get_new_same]
  have back : ∀ k C, ρ.new H.next B k = some C → (((H.new o).del l).get k).isSome → ∃ k', ρ k' = some C ∧ (H.get k').isSome ∧ (k = H.next → k' = l) ∧ (k ≠ H.next → k' = k ∧ k ≠ l) := by
    intro k C h1 h2
    by_cases e : k = H.next
    · subst e
      simp only [Rho.new, if_true] at h1
      cases h1
      exact ⟨l, hB, by simp [hl], fun _ => rfl, fun h => (h rfl).elim⟩
    · have e2 : k ≠ l := by
        rintro rfl
        rw [AHeap.get_del_same] at h2
        cases h2
      rw [hgo k e e2] at h2
      simp only [Rho.new, if_neg e] at h1
      exact ⟨k, h1, h2, fun h => (e h).elim, fun _ => ⟨rfl, e2⟩⟩
  refine ⟨⟨?_, ?_, ?_, hc.imm, hc.globs hext fun _ _ h => h⟩, ⟨hext, fun _ _ h => h, rfl, rfl, rfl, Nat.le_refl _, fun _ _ _ => rfl, ?_, by simp [AHeap.del, AHeap.new]⟩⟩
  · intro a b A C h1 h2 h3 h4 he
    obtain ⟨a', ha1, ha2, ha3, ha4⟩ := back a A h1 h3
    obtain ⟨b', hb1, hb2, hb3, hb4⟩ := back b C h2 h4
    have := hc.inj a' b' A C ha1 hb1 ha2 hb2 he
    by_cases ea : a = H.next
    · by_cases eb : b = H.next
      · omega
      · have := ha3 ea; have := hb4 eb; omega
    · by_cases eb : b = H.next
      · have := ha4 ea; have := hb3 eb; omega
      · have := ha4 ea; have := hb4 eb; omega
  · intro k C h
    simp only [Rho.new] at h
    split at h
    · rename_i e; simp [AHeap.del, AHeap.new, e]
    · have := hc.dom k C h; simp [AHeap.del, AHeap.new]; omega
  · intro k q hq
    by_cases e : k = H.next
    · subst e
      rw [hgn] at hq
      cases hq
      obtain ⟨B', hB', hI, hat⟩ := hc.obj l o hl
      rw [hB] at hB'; cases hB'
      exact ⟨B, by simp [Rho.new], hI, hat.mono hext (fun _ _ h => h) rfl⟩
    · by_cases e2 : k = l
      · subst e2; rw [AHeap.get_del_same] at hq; cases hq
      · rw [hgo k e e2] at hq
        obtain ⟨B', h1, h2, h3⟩ := hc.obj k q hq
        exact ⟨B', hext k B' h1, h2, h3.mono hext (fun _ _ h => h) rfl⟩
  · rintro b hb hn ⟨k, C, h1, h2, h3⟩
    obtain ⟨k', g1, g2, _⟩ := back k C h1 h3
    exact hn ⟨k', C, g1, h2, g2⟩

theorem SubH.del (H : AHeap) (l : Nat) : SubH H (H.del l) :=
  ⟨fun k o h => by
    by_cases e : k = l
    · subst e; rw [AHeap.get_del_same] at h; cases h
    · rwa [AHeap.get_del_ne _ e] at h, rfl⟩

section
variable {P : Program} {o : Oper} {T : Fr} {H : AHeap} {TT : Nat → TI} (hT : TOk P TT)

/-! ### append -/

inductive Src (H : AHeap) (k : Nat) : AV → Nat → List AV → Prop
  | vec {n : Nat} {ys : List AV} : Src H k (.vec n ys) n ys
  | sl {l off n : Nat} {ty : TypeId} {cs : List AV} (h : H.get l = some (.cells ty cs)) (hf : off + n * k ≤ cs.length) : Src H k (.sl l off n k) n ((cs.drop off).take (n * k))
  | nil : Src H k (.v (.slice none 0 0)) 0 []

theorem Src.read {ρ : Rho} {I : Imm} {w : World} (hc : Conc ρ I w H) {k n : Nat} {ys : List AV} {y : AV} (h : Src H k y n ys) (hl : ys.length = n * k) {u : Value} (hu : CV ρ I y u) :
    (∀ w', (Builtin.lenOf u).run P w' = .ok n w') ∧ (∃ p c, u = .slice p n c) ∧ ∃ news : List Value, news.length = ys.length ∧ (∀ w', w'.heap = w.heap → (Builtin.firstCells k n u).run P w' = .ok news.toArray w') ∧
      ∀ (i : Nat) a v, ys[i]? = some a → news[i]? = some v → CV ρ I a v := by
  cases h with
  | vec =>
    cases hu with
    | @vec0 p c =>
      refine ⟨fun w' => rfl, ⟨_, _, rfl⟩, [], rfl, fun w' _ => ?_, by simp⟩
      cases p with
      | none => simp [Builtin.firstCells]
      | some p =>
        have := run_firstCells_some (P := P) w' k 0 p 0 c [] (by simp) (by simp)
        simpa using this
    | @vec _ c _ b off arr vs hn hm hI hl' hcc hvv =>
      obtain ⟨t, fz, hb⟩ := hc.imm b arr hI
      refine ⟨fun w' => rfl, ⟨_, _, rfl⟩, vs, hl', fun w' hw' => ?_, hvv⟩
      refine run_firstCells_some (P := P) w' k n ⟨b, off, none⟩ n c vs (by omega) (fun j v hv => ?_)
      rw [add_none, cell_of (by rw [hw']; exact hb)]
      exact hcc j v hv
  | @sl l off _ ty cs hH hf =>
    obtain ⟨B, hB, _, hat⟩ := hc.obj l _ hH
    obtain ⟨vs, hvl, hcell, hcv⟩ := obj_stretch hat hf
    cases hu with
    | @sl _ _ _ _ c B' hB' h1 h2 h3 =>
      rw [hB] at hB'; cases hB'
      refine ⟨fun w' => rfl, ⟨_, _, rfl⟩, vs, by simp [hvl]; omega, fun w' hw' => ?_, hcv⟩
      refine run_firstCells_some (P := P) w' k n ⟨B.b, off, none⟩ n c vs hvl (fun j v hv => ?_)
      rw [add_none]
      have := hcell j v hv
      unfold World.cell? at this ⊢
      rw [hw']; exact this
  | nil =>
    have := cv_v hu
    subst this
    exact ⟨fun w' => rfl, ⟨_, _, rfl⟩, [], rfl, fun w' _ => by simp [Builtin.firstCells], by simp⟩

include hT

theorem run_append {t t2 ty e : TypeId} (hok : (TT t).ok = true) (hoke : (TT e).ok = true) (hok2 : (TT t2).ok = true) (hu : (TT t).und = .slice e) (hu2 : ∃ e', (TT t2).und = .slice e' ∨ (TT t2).und = .string) {w : World} {base : Option Addr} {sLen sCap n : Nat} {u : Value} {olds news : Array Value}
    (hlen : ∀ w', (Builtin.lenOf u).run P w' = .ok n w') (hnews : ∀ w', w'.heap = w.heap → (Builtin.firstCells (TT e).size n u).run P w' = .ok news w') (holds : ∀ w', w'.heap = w.heap → (Builtin.firstCells (TT e).size sLen (.slice base sLen sCap)).run P w' = .ok olds w')
    (hb : (sLen + n) * (TT e).bytes ≤ 140737488355328) (hm : sLen + n ≤ 9223372036854775807) :
    (Builtin.append_ #[t, t2] ty #[.slice base sLen sCap, u]).run P w =
      if sLen + n ≤ sCap then (match base with | some a => (storeCells (a.add (sLen * (TT e).size)) news.toList).run P w | none => .ok () w).andThen fun _ w => .ok (.slice base (sLen + n) sCap) w
      else .ok (.slice (some ⟨w.heap.size, 0, none⟩) (sLen + n) (grownCap w (sLen + n) sCap e)) (w.drew.alloc (.cells (olds ++ news ++ Builtin.zeroCells (TT e).zero.cells (grownCap w (sLen + n) sCap e - (sLen + n))) e)) := by
  obtain ⟨f, hf, hf1, hf2, hf3⟩ := (hT e hoke).info
  have hinfo : ∀ w', (typeInfo e).run P w' = .ok f w' := fun w' => by simp [typeInfo, hf]
  have hn0 := hnews w rfl
  have hl0 := hlen w
  by_cases hroom : sLen + n ≤ sCap
  · rw [if_pos hroom]
    obtain ⟨e', h2 | h2⟩ := hu2 <;>
      (simp only [Builtin.append_, Sem.run_bind, Sem.run_pure, (hT t hok).run_und w, hu, (hT t2 hok2).run_und w, h2, (hT e hoke).run_size w, hl0, hn0, Result.andThen, if_pos hroom, List.getElem?_toArray, List.getElem?_cons_zero, List.getElem?_cons_succ, Bool.false_eq_true, if_false, Bool.not_false, if_true]
       cases base <;> simp <;> rfl)
  · rw [if_neg hroom]
    have hfit := growslice_fits (need := sLen + n) (old := sCap) (bytes := (TT e).bytes) (by omega) hb
    have h63 : ¬ (((sLen + n : Nat) : Int) > IntKind.i64.max) := by simp [IntKind.max, IntKind.signed, IntKind.bits]; omega
    have hfit' : ¬ (Builtin.nextslicecap (sLen + n) sCap * f.bytes > 2 ^ 48) := by rw [hf3]; omega
    have hn' := hnews w.drew rfl
    have ho' := holds w.drew rfl
    have hask : ∀ m w', (askRoom m).run P w' = .ok () w' := fun m w' => by unfold askRoom; split <;> simp [mark, Sem.run]
    have hch : (choose (.appendCap (sLen + n) sCap e)).run P w = .ok (grownCap w (sLen + n) sCap e) w.drew := by simp only [choose, Sem.run, Question.forced]; rfl
    have hlast : ∀ (cs : Array Value), (newRow e cs).run P w.drew = .ok ⟨w.heap.size, 0, none⟩ (w.drew.alloc (.cells cs e)) := fun cs => by simp only [newRow, newObj, Sem.run_bind, Sem.run, Result.andThen]; rfl
    obtain ⟨e', h2 | h2⟩ := hu2 <;>
      (simp only [Builtin.append_, Sem.run_bind, Sem.run_pure, (hT t hok).run_und w, hu, (hT t2 hok2).run_und w, h2, (hT e hoke).run_size w, hl0, Result.andThen, if_neg hroom, List.getElem?_toArray, List.getElem?_cons_zero, List.getElem?_cons_succ, Bool.false_eq_true, if_false, Bool.not_false, if_true, hinfo]
       rw [if_neg (by intro h; exact h63 h.1)]
       simp only [Sem.run_bind, Sem.run_pure, Result.andThen, hinfo, if_neg hfit', hch, hask, ho', hn', (hT e hoke).run_zero, hlast])
end
end Go.Ax

/- The abstract layer, part 8: append, literals, closures, calls, the begin and the end of a function, freezing. -/

namespace Go.Ax
set_option linter.unusedSectionVars false
variable [Tabs]

section
variable {P : Program} {o : Oper} {T : Fr} {H : AHeap} {TT : Nat → TI} (hT : TOk P TT)

theorem getElem?_appendA {α : Type} {a b : List α} {i : Nat} {x : α} (h : (a ++ b)[i]? = some x) : (i < a.length ∧ a[i]? = some x) ∨ (a.length ≤ i ∧ b[i - a.length]? = some x) := by
  by_cases hi : i < a.length
  · rw [List.getElem?_append_left hi] at h; exact .inl ⟨hi, h⟩
  · rw [List.getElem?_append_right (by omega)] at h; exact .inr ⟨by omega, h⟩

theorem cv_append {ρ : Rho} {I : Imm} {cs ys : List AV} {us vs : List Value} (h1 : us.length = cs.length) (hv1 : ∀ (i : Nat) a v, cs[i]? = some a → us[i]? = some v → CV ρ I a v) (hv2 : ∀ (i : Nat) a v, ys[i]? = some a → vs[i]? = some v → CV ρ I a v) :
    ∀ (i : Nat) a v, (cs ++ ys)[i]? = some a → (us ++ vs)[i]? = some v → CV ρ I a v := by
  intro i a v ha hv
  rcases getElem?_appendA ha with ⟨hi, ha⟩ | ⟨hi, ha⟩
  · rw [List.getElem?_append_left (by omega)] at hv; exact hv1 i a v ha hv
  · rw [List.getElem?_append_right (by omega), h1] at hv; exact hv2 _ a v ha hv

include hT in
theorem AStepD.append_gen {t t2 e : TypeId} {x y : Operand} {l len n k : Nat} {ys cs : List AV} {ty : TypeId} (ho : o.op = .call { callee := .builtin .append, args := #[x, y], argTypes := #[t, t2] }) (hx : aev T x = .sl l 0 len k) (hH : H.get l = some (.cells ty cs)) (hcs : cs.length = len * k)
    (hread : ∀ ρ I w a, Conc ρ I w H → TV ρ I T a → (∀ w', (Builtin.lenOf (a.eval y)).run P w' = .ok n w') ∧ ∃ news : List Value, news.length = ys.length ∧ (∀ w', w'.heap = w.heap → (Builtin.firstCells (TT e).size n (a.eval y)).run P w' = .ok news.toArray w') ∧ ∀ (i : Nat) b v, ys[i]? = some b → news[i]? = some v → CV ρ I b v) (hys : ys.length = n * k) (hone : ∀ z ∈ ys, z.one = true)
    (hok : (TT t).ok = true) (hoke : (TT e).ok = true) (hok2 : (TT t2).ok = true) (hu : (TT t).und = .slice e) (hu2 : ∃ e', (TT t2).und = .slice e' ∨ (TT t2).und = .string) (hk : (TT e).size = k) (hte : ty = e) (hb : (len + n) * (TT e).bytes ≤ 140737488355328) (hm : len + n ≤ 9223372036854775807) :
    AStepD P o T H (.sl H.next 0 (len + n) k) ((H.new (.cells e (cs ++ ys))).del l) := by
  subst hk; subst hte
  refine AStep.of_run fun ρ I w a hc ht => ?_
  have hv := aev_eq ht hx
  obtain ⟨hlen, news, hnl, hnews, hncv⟩ := hread ρ I w a hc ht
  have hlt := AHeap.get_lt hc hH
  generalize he : a.eval x = u at hv
  cases hv with
  | @sl _ _ _ _ c B hB hlc hmc hsz =>
    obtain ⟨B', hB', hIB, arr, harr, hasz, hcl, hacv⟩ := hc.obj l _ hH
    rw [hB] at hB'; cases hB'
    simp only [Nat.zero_add] at hsz
    have holds : ∀ w', w'.heap = w.heap → (Builtin.firstCells (TT ty).size len (.slice (some ⟨B.b, 0, none⟩) len c)).run P w' = .ok (arr.toList.take (len * (TT ty).size)).toArray w' := by
      intro w' hw'
      refine run_firstCells_some (P := P) w' _ _ _ _ _ _ (by simp; omega) (fun j v hv => ?_)
      rw [add_none, (harr.mono (by rw [hw'])).cell]
      rw [List.getElem?_take] at hv
      split at hv
      · simpa using hv
      · cases hv
    have hone' : ∀ v ∈ news, v.oneCell' = true := by
      intro v hv
      obtain ⟨i, hi⟩ := List.mem_iff_getElem?.1 hv
      have hil : i < ys.length := by rw [← hnl]; exact (List.getElem?_eq_some_iff.1 hi).1
      exact one_cell (hncv i ys[i] v (by simp [hil]) hi) (hone _ (List.getElem_mem hil))
    have hrun := run_append hT (ty := o.type) hok hoke hok2 hu hu2 hlen hnews holds hb hm
    by_cases hroom : len + n ≤ c
    · rw [if_pos hroom] at hrun
      have hmul : (len + n) * (TT ty).size ≤ c * (TT ty).size := Nat.mul_le_mul_right _ hroom
      have hmul2 : (len + n) * (TT ty).size = len * (TT ty).size + n * (TT ty).size := Nat.add_mul _ _ _
      have hst := harr.run_store (P := P) (o := len * (TT ty).size) news 0 (by simp; omega) hone'
      simp only [Nat.add_zero] at hst
      simp only [add_none, Nat.zero_add, hst, Result.andThen] at hrun
      obtain ⟨hc1, ev1⟩ := hc.set (o' := .cells ty (cs ++ ys)) hH hB (w' := w.setRow B.b (arr.toList.take (len * (TT ty).size) ++ news ++ arr.toList.drop (len * (TT ty).size + news.length)).toArray) (by simp) (fun k hk => setRow_other w B.b k _ hk)
        ⟨_, harr.row (by simp; omega), by simp; omega, by simp; omega, by
          intro i z v hz hv
          simp only [List.append_assoc, List.getElem?_toArray] at hv
          rcases getElem?_appendA hz with ⟨hi, hz⟩ | ⟨hi, hz⟩
          · rw [List.getElem?_append_left (by simp; omega), List.getElem?_take, if_pos (by omega)] at hv
            exact hacv i z v hz (by simpa using hv)
          · have hil := (List.getElem?_eq_some_iff.1 hz).1
            rw [List.getElem?_append_right (by simp; omega), List.getElem?_append_left (by simp; omega)] at hv
            simp only [List.length_take, Array.length_toList, show min (len * (TT ty).size) arr.size = cs.length by omega] at hv
            exact hncv _ z v hz hv⟩ rfl rfl rfl
      obtain ⟨hc2, ev2⟩ := hc1.rename (l := l) (o := .cells ty (cs ++ ys)) (B := B) (AHeap.get_set_same _ _ _) hB
      have hHe : ((H.set l (.cells ty (cs ++ ys))).new (.cells ty (cs ++ ys))).del l = (H.new (.cells ty (cs ++ ys))).del l := by
        simp only [AHeap.del, AHeap.new, AHeap.set, AHeap.mk.injEq, and_true]
        funext k
        by_cases e : k = l <;> simp [e]
      rw [hHe] at hc2 ev2
      refine ⟨.slice (some ⟨B.b, 0, none⟩) (len + n) c, _, _, _, _, _, run_builtin ho a w ?_, ⟨rfl, rfl⟩, ?_, hc2, ev1.trans ev2⟩
      · rw [show (#[x, y] : Array Operand).map a.eval = #[a.eval x, a.eval y] from by simp, he]
        simp only [builtin, Sem.run_bind, hrun, Result.andThen, Sem.run_pure]
      · exact .sl (by simp [Rho.new, AHeap.set]) (by omega) hmc (by omega)
    · rw [if_neg hroom] at hrun
      have hge := grownCap_ge w (len + n) c ty
      have hle := grownCap_le_maxLen w (len + n) c ty (by unfold maxLen; omega)
      obtain ⟨hc1, ev1⟩ := hc.drew.alloc (ty := ty) (cs := cs ++ ys) (arr := (arr.toList.take (len * (TT ty).size)).toArray ++ news.toArray ++ Builtin.zeroCells (TT ty).zero.cells (grownCap w (len + n) c ty - (len + n))) (by simp; omega) (by
        intro i z v hz hv
        have : ((arr.toList.take (len * (TT ty).size)).toArray ++ news.toArray ++ Builtin.zeroCells (TT ty).zero.cells (grownCap w (len + n) c ty - (len + n)))[i]? = (arr.toList.take (len * (TT ty).size) ++ news)[i]? := by
          have hil := (List.getElem?_eq_some_iff.1 hz).1
          rw [Array.getElem?_append_left (by simp at hil ⊢; omega)]
          simp
        rw [this] at hv
        refine cv_append (us := arr.toList.take (len * (TT ty).size)) (by simp; omega) (fun i z v hz hv => ?_) hncv i z v hz hv
        rw [List.getElem?_take] at hv
        split at hv
        · exact hacv i z v hz (by simpa using hv)
        · cases hv)
      have hs := SubH.del (H.new (.cells ty (cs ++ ys))) l
      refine ⟨.slice (some ⟨w.heap.size, 0, none⟩) (len + n) (grownCap w (len + n) c ty), _, _, _, _, _, run_builtin ho a w ?_, ⟨rfl, rfl⟩, ?_, hc1.sub hs, ((Ev.drew ρ I w H).trans ev1).trans (Ev.sub hs)⟩
      · rw [show (#[x, y] : Array Operand).map a.eval = #[a.eval x, a.eval y] from by simp, he]
        simp only [builtin, Sem.run_bind, hrun, Result.andThen, Sem.run_pure]
      · refine .sl (B := ⟨w.heap.size, _⟩) (by simp [Rho.new]; rfl) (by omega) hle ?_
        have := (hT ty hoke).zs
        have e1 : (grownCap w (len + n) c ty - (len + n)) * (TT ty).size + (len + n) * (TT ty).size = grownCap w (len + n) c ty * (TT ty).size := by rw [← Nat.add_mul]; congr 1; omega
        have e2 : (len + n) * (TT ty).size = len * (TT ty).size + n * (TT ty).size := Nat.add_mul _ _ _
        simp [size_zeroCells, this]
        omega

include hT in
theorem AStepD.append {t t2 e : TypeId} {x y : Operand} {l len n k : Nat} {ys cs : List AV} {ty : TypeId} (ho : o.op = .call { callee := .builtin .append, args := #[x, y], argTypes := #[t, t2] }) (hx : aev T x = .sl l 0 len k) (hH : H.get l = some (.cells ty cs)) (hcs : cs.length = len * k)
    (hsrc : Src H k (aev T y) n ys) (hys : ys.length = n * k) (hone : ∀ z ∈ ys, z.one = true)
    (hok : (TT t).ok = true) (hoke : (TT e).ok = true) (hok2 : (TT t2).ok = true) (hu : (TT t).und = .slice e) (hu2 : (TT t2).und = .slice e) (hk : (TT e).size = k) (hte : ty = e) (hb : (len + n) * (TT e).bytes ≤ 140737488355328) (hm : len + n ≤ 9223372036854775807) :
    AStepD P o T H (.sl H.next 0 (len + n) k) ((H.new (.cells e (cs ++ ys))).del l) :=
  .append_gen hT ho hx hH hcs (fun ρ I w a hc ht => let ⟨h1, _, h2⟩ := hsrc.read (P := P) hc hys (aev_cv ht y); ⟨h1, hk ▸ h2⟩) hys hone hok hoke hok2 hu ⟨_, .inl hu2⟩ hk hte hb hm

include hT in
theorem AStepD.append_nil_gen {t t2 e : TypeId} {x y : Operand} {n k : Nat} {ys : List AV} (ho : o.op = .call { callee := .builtin .append, args := #[x, y], argTypes := #[t, t2] }) (hx : aev T x = .v (.slice none 0 0))
    (hread : ∀ ρ I w a, Conc ρ I w H → TV ρ I T a → (∀ w', (Builtin.lenOf (a.eval y)).run P w' = .ok n w') ∧ ∃ news : List Value, news.length = ys.length ∧ (∀ w', w'.heap = w.heap → (Builtin.firstCells (TT e).size n (a.eval y)).run P w' = .ok news.toArray w') ∧ ∀ (i : Nat) b v, ys[i]? = some b → news[i]? = some v → CV ρ I b v) (hys : ys.length = n * k) (hn : 0 < n)
    (hok : (TT t).ok = true) (hoke : (TT e).ok = true) (hok2 : (TT t2).ok = true) (hu : (TT t).und = .slice e) (hu2 : ∃ e', (TT t2).und = .slice e' ∨ (TT t2).und = .string) (hk : (TT e).size = k) (hb : n * (TT e).bytes ≤ 140737488355328) (hm : n ≤ 9223372036854775807) :
    AStepD P o T H (.sl H.next 0 n k) (H.new (.cells e ys)) := by
  subst hk
  refine AStep.of_run fun ρ I w a hc ht => ?_
  have he := cv_v (aev_eq ht hx)
  obtain ⟨hlen, news, hnl, hnews, hncv⟩ := hread ρ I w a hc ht
  have hrun := run_append hT (ty := o.type) (base := none) (sLen := 0) (sCap := 0) (olds := #[]) hok hoke hok2 hu hu2 hlen hnews (fun w' _ => by simp [Builtin.firstCells]) (by simpa using hb) (by omega)
  rw [if_neg (by omega)] at hrun
  have hge := grownCap_ge w (0 + n) 0 e
  have hle := grownCap_le_maxLen w (0 + n) 0 e (by unfold maxLen; omega)
  obtain ⟨hc1, ev1⟩ := hc.drew.alloc (ty := e) (cs := ys) (arr := #[] ++ news.toArray ++ Builtin.zeroCells (TT e).zero.cells (grownCap w (0 + n) 0 e - (0 + n))) (by simp; omega) (by
    intro i z v hz hv
    have hil := (List.getElem?_eq_some_iff.1 hz).1
    rw [Array.getElem?_append_left (by simp; omega)] at hv
    exact hncv i z v hz (by simpa using hv))
  refine ⟨.slice (some ⟨w.heap.size, 0, none⟩) (0 + n) (grownCap w (0 + n) 0 e), _, _, _, _, _, run_builtin ho a w ?_, ⟨rfl, rfl⟩, ?_, hc1, (Ev.drew ρ I w H).trans ev1⟩
  · rw [show (#[x, y] : Array Operand).map a.eval = #[a.eval x, a.eval y] from by simp, he]
    simp only [builtin, Sem.run_bind, hrun, Result.andThen, Sem.run_pure]
  · rw [Nat.zero_add] at hge hle ⊢
    refine .sl (B := ⟨w.heap.size, _⟩) (by simp [Rho.new]; rfl) (by omega) hle ?_
    have := (hT e hoke).zs
    have e1 : (grownCap w n 0 e - n) * (TT e).size + n * (TT e).size = grownCap w n 0 e * (TT e).size := by rw [← Nat.add_mul]; congr 1; omega
    simp [size_zeroCells, this]
    omega

include hT in
theorem AStepD.append_nil {t t2 e : TypeId} {x y : Operand} {n k : Nat} {ys : List AV} (ho : o.op = .call { callee := .builtin .append, args := #[x, y], argTypes := #[t, t2] }) (hx : aev T x = .v (.slice none 0 0))
    (hsrc : Src H k (aev T y) n ys) (hys : ys.length = n * k) (hn : 0 < n)
    (hok : (TT t).ok = true) (hoke : (TT e).ok = true) (hok2 : (TT t2).ok = true) (hu : (TT t).und = .slice e) (hu2 : (TT t2).und = .slice e) (hk : (TT e).size = k) (hb : n * (TT e).bytes ≤ 140737488355328) (hm : n ≤ 9223372036854775807) :
    AStepD P o T H (.sl H.next 0 n k) (H.new (.cells e ys)) :=
  .append_nil_gen hT ho hx (fun ρ I w a hc ht => let ⟨h1, _, h2⟩ := hsrc.read (P := P) hc hys (aev_cv ht y); ⟨h1, hk ▸ h2⟩) hys hn hok hoke hok2 hu ⟨_, .inl hu2⟩ hk hb hm

/-! ### Literals -/

def afill (place : Nat → Option (Nat × Nat)) (cells : List AV) : List (Nat × AV) → Option (List AV)
  | [] => some cells
  | (i, x) :: rest =>
    match place i with
    | none => none
    | some (off, size) => if x.cells.length = size ∧ off + size ≤ cells.length then afill place (over cells off x.cells) rest else none

theorem setFold (vs : List Value) : ∀ (off : Nat) (k : Nat) (cs : Array Value), off + k + vs.length ≤ cs.size →
    ((vs.zipIdx k).foldl (fun cs p => cs.setIfInBounds (off + p.2) p.1) cs).toList = cs.toList.take (off + k) ++ vs ++ cs.toList.drop (off + k + vs.length) := by
  induction vs with
  | nil => intro off k cs _; simp
  | cons v r ih =>
    intro off k cs h
    simp only [List.zipIdx_cons, List.foldl_cons]
    rw [ih off (k + 1) _ (by simp at h ⊢; omega)]
    simp only [List.length_cons] at h
    have e := list_seg_step cs.toList (off + k) v r (by simp; omega)
    simpa [Array.toList_setIfInBounds, Nat.add_assoc] using e

theorem fill_ok {ρ : Rho} {I : Imm} {place : Nat → Option (Nat × Nat)} : ∀ (parts : List (Nat × AV)) (us : List (Nat × Value)) (cells res : List AV) (cs : Array Value), afill place cells parts = some res →
    us.map (·.1) = parts.map (·.1) → (∀ (i : Nat) p u, parts[i]? = some p → us[i]? = some u → CV ρ I p.2 u.2) → (∀ p ∈ parts, ∀ x ∈ p.2.cells, x.one = true) →
    cs.size = cells.length → (∀ (i : Nat) a u, cells[i]? = some a → cs[i]? = some u → CV ρ I a u) →
    ∃ out, Instr.fill place cs us = some out ∧ out.size = res.length ∧ ∀ (i : Nat) a u, res[i]? = some a → out[i]? = some u → CV ρ I a u
  | [], us, cells, res, cs, h, hm, _, _, hs, hv => by
    have : us = [] := by simpa using hm
    subst this
    simp only [afill, Option.some.injEq] at h
    subst h
    exact ⟨cs, rfl, hs, hv⟩
  | (i, x) :: rest, us, cells, res, cs, h, hm, hp, h1, hs, hv => by
    obtain ⟨j, u, us', rfl, rfl, hm'⟩ : ∃ j u us', us = (j, u) :: us' ∧ j = i ∧ us'.map (·.1) = rest.map (·.1) := by
      cases us with
      | nil => simp at hm
      | cons p us => simp only [List.map_cons, List.cons.injEq] at hm; exact ⟨p.1, p.2, us, rfl, hm.1, hm.2⟩
    simp only [afill] at h
    split at h
    · cases h
    · rename_i off size hpl
      split at h
      · rename_i hsz
        obtain ⟨hsz, hfit⟩ := hsz
        obtain ⟨hl, hcv, _⟩ := cells_cv (hp 0 (j, x) (j, u) rfl rfl) (h1 (j, x) (by simp))
        have hul : u.cells.size = size := by simp only [Array.length_toList] at hl; omega
        have hfold := setFold u.cells.toList off 0 cs (by simp; omega)
        have hfold' : (u.cells.zipIdx.foldl (fun cs p => cs.setIfInBounds (off + p.2) p.1) cs).toList = cs.toList.take off ++ u.cells.toList ++ cs.toList.drop (off + u.cells.toList.length) := by
          rw [← Array.foldl_toList]
          simpa [Array.toList_zipIdx] using hfold
        obtain ⟨out, ho, hos, hov⟩ := fill_ok rest us' (over cells off x.cells) res (u.cells.zipIdx.foldl (fun cs p => cs.setIfInBounds (off + p.2) p.1) cs) h hm'
          (fun i p v hp' hv' => hp (i + 1) p v (by simpa using hp') (by simpa using hv')) (fun p hp' => h1 p (by simp [hp']))
          (by rw [← Array.length_toList, hfold', over_length (by omega)]; simp; omega)
          (by
            intro q a v ha hv'
            rw [← Array.getElem?_toList, hfold'] at hv'
            simp only [over, List.append_assoc] at ha hv'
            by_cases hq : q < off
            · rw [List.getElem?_append_left (by simp; omega), List.getElem?_take, if_pos hq] at ha hv'
              exact hv q a v ha (by simpa using hv')
            · rw [List.getElem?_append_right (by simp; omega)] at ha hv'
              simp only [List.length_take, Array.length_toList, show min off cells.length = off by omega, show min off cs.size = off by omega] at ha hv'
              by_cases hq2 : q - off < x.cells.length
              · rw [List.getElem?_append_left hq2] at ha
                rw [List.getElem?_append_left (by simp; omega)] at hv'
                exact hcv _ a v ha hv'
              · rw [List.getElem?_append_right (by omega)] at ha
                rw [List.getElem?_append_right (by simp; omega)] at hv'
                simp only [Array.length_toList, List.getElem?_drop] at ha hv'
                refine hv q a v ?_ ?_
                · rw [← ha]; congr 1; omega
                · rw [Array.getElem?_toList] at hv'; rw [← hv']; congr 1; omega)
        refine ⟨out, ?_, hos, hov⟩
        simp only [Instr.fill, hpl]
        rw [if_neg (by simp; omega)]
        exact ho
      · cases h

end
end Go.Ax

/- The abstract layer, part 9: literals, closures, calls, the begin and the end of a function, freezing. -/

namespace Go.Ax
set_option linter.unusedSectionVars false
variable [Tabs]
variable {md : Md}

section
variable {P : Program} {o : Oper} {T : Fr} {H : AHeap} {TT : Nat → TI} (hT : TOk P TT)

theorem parts_ev {ρ : Rho} {I : Imm} {a : Act} (ht : TV ρ I T a) (parts : Array (Nat × Operand)) :
    ((parts.map fun (i, x) => (i, a.eval x)).toList.map (·.1) = (parts.toList.map fun p => (p.1, aev T p.2)).map (·.1)) ∧
    ∀ (i : Nat) p u, (parts.toList.map fun p => (p.1, aev T p.2))[i]? = some p → (parts.map fun (i, x) => (i, a.eval x)).toList[i]? = some u → CV ρ I p.2 u.2 := by
  refine ⟨by simp [Function.comp_def], fun i p u hp hu => ?_⟩
  simp only [List.getElem?_map, Array.toList_map] at hp hu
  cases hq : parts.toList[i]? with
  | none => rw [hq] at hp; cases hp
  | some q =>
    rw [hq] at hp hu
    cases hp; cases hu
    exact aev_cv ht q.2

def placesOf (TT : Nat → TI) (fs : Array Field) : Nat → Option (Nat × Nat) := fun i => (fs[i]?).map fun f => (f.offset, (TT f.type).size)

include hT

theorem run_places (w : World) : ∀ (l : List Field), (∀ f ∈ l, (TT f.type).ok = true) →
    (l.mapM fun (f : Field) => (do pure (f.offset, ← sizeOf f.type) : Sem (Nat × Nat))).run P w = .ok (l.map fun (f : Field) => (f.offset, (TT f.type).size)) w
  | [], _ => by simp
  | f :: r, h => by
    have h1 := (hT f.type (h f (by simp))).run_size w
    have ih := run_places w r (fun g hg => h g (by simp [hg]))
    simp only [List.mapM_cons, Sem.run_bind, h1, Result.andThen, ih, Sem.run_pure, List.map_cons]

theorem AStepD.build {t : TypeId} {parts : Array (Nat × Operand)} {fs : Array Field} {cs : List AV} (ho : o.op = .build t parts) (hok : (TT t).ok = true) (hu : (TT t).und = .struct fs) (hfs : ∀ f ∈ fs.toList, (TT f.type).ok = true)
    (hf : afill (placesOf TT fs) (AV.ofV (TT t).zero) (parts.toList.map fun p => (p.1, aev T p.2)) = some cs) (hone : ∀ p ∈ parts.toList.map (fun p => (p.1, aev T p.2)), ∀ x ∈ p.2.cells, x.one = true) : AStepD P o T H (.agg cs) H := by
  refine .of_pure fun ρ I w a _ ht => ?_
  obtain ⟨h1, h2⟩ := parts_ev ht parts
  obtain ⟨out, ho', hs, hv⟩ := fill_ok _ _ _ cs (TT t).zero.cells hf h1 h2 hone (by simp [AV.ofV]) (fun i a u ha hu => by
    simp only [AV.ofV, List.getElem?_map, Array.getElem?_toList, hu, Option.map_some, Option.some.injEq] at ha
    subst ha; exact .v u)
  refine ⟨.agg out, ?_, by simpa using CV.agg (vs := out.toList) (by simpa using hs) (by simpa using hv)⟩
  have hm := run_places hT w fs.toList hfs
  have hp : (fun i => (((fs.toList.map fun f => (f.offset, (TT f.type).size)).toArray)[i]?)) = placesOf TT fs := by
    funext i; simp [placesOf]
  have hm' : (fs.mapM fun (f : Field) => (do pure (f.offset, ← sizeOf f.type) : Sem (Nat × Nat))).run P w = .ok (fs.toList.map fun f => (f.offset, (TT f.type).size)).toArray w := by
    rw [Array.mapM_eq_mapM_toList]
    show ((fs.toList.mapM fun (f : Field) => (do pure (f.offset, ← sizeOf f.type) : Sem (Nat × Nat))) >>= fun l => pure l.toArray).run P w = _
    simp only [Sem.run_bind, hm, Result.andThen, Sem.run_pure]
  simp only [execOp, ho, Instr.build, Sem.run_bind, (hT t hok).run_zero w, Result.andThen, (hT t hok).run_und w, hu, hm', hp, ho', Sem.run_pure]

theorem AStepD.build_arr {t e : TypeId} {n : Nat} {parts : Array (Nat × Operand)} {cs : List AV} (ho : o.op = .build t parts) (hok : (TT t).ok = true) (hu : (TT t).und = .array n e) (hoke : (TT e).ok = true)
    (hf : afill (fun i => some (i * (TT e).size, (TT e).size)) (AV.ofV (TT t).zero) (parts.toList.map fun p => (p.1, aev T p.2)) = some cs) (hone : ∀ p ∈ parts.toList.map (fun p => (p.1, aev T p.2)), ∀ x ∈ p.2.cells, x.one = true) : AStepD P o T H (.agg cs) H := by
  refine .of_pure fun ρ I w a _ ht => ?_
  obtain ⟨h1, h2⟩ := parts_ev ht parts
  obtain ⟨out, ho', hs, hv⟩ := fill_ok _ _ _ cs (TT t).zero.cells hf h1 h2 hone (by simp [AV.ofV]) (fun i a u ha hu => by
    simp only [AV.ofV, List.getElem?_map, Array.getElem?_toList, hu, Option.map_some, Option.some.injEq] at ha
    subst ha; exact .v u)
  refine ⟨.agg out, ?_, by simpa using CV.agg (vs := out.toList) (by simpa using hs) (by simpa using hv)⟩
  simp only [execOp, ho, Instr.build, Sem.run_bind, (hT t hok).run_zero w, Result.andThen, (hT t hok).run_und w, hu, (hT e hoke).run_size w, ho', Sem.run_pure]

omit hT in
theorem afill_length {place : Nat → Option (Nat × Nat)} : ∀ {parts : List (Nat × AV)} {cells res : List AV}, afill place cells parts = some res → res.length = cells.length
  | [], cells, res, h => by simp only [afill, Option.some.injEq] at h; rw [h]
  | (i, x) :: rest, cells, res, h => by
    simp only [afill] at h
    split at h
    · cases h
    · split at h
      · rename_i hh
        rw [afill_length h, over_length (by omega)]
      · cases h

def zerosA (z : Value) (n : Nat) : List AV := (List.range (n * z.cells.size)).map fun i => .v (z.cells[i % z.cells.size]!)

theorem AStepD.buildSlice {t e : TypeId} {n k : Nat} {parts : Array (Nat × Operand)} {cs : List AV} (ho : o.op = .buildSlice t n parts) (hok : (TT t).ok = true) (hu : (TT t).und = .slice e) (hoke : (TT e).ok = true) (hk : (TT e).size = k) (hbig : n * k ≤ 16777216) (hn : n ≤ maxLen)
    (hf : afill (fun i => some (i * k, k)) (zerosA (TT e).zero n) (parts.toList.map fun p => (p.1, aev T p.2)) = some cs) (hone : ∀ p ∈ parts.toList.map (fun p => (p.1, aev T p.2)), ∀ x ∈ p.2.cells, x.one = true) :
    AStepD P o T H (.sl H.next 0 n k) (H.new (.cells e cs)) := by
  subst hk
  refine AStep.of_run fun ρ I w a hc ht => ?_
  obtain ⟨h1, h2⟩ := parts_ev ht parts
  have hzs := (hT e hoke).zs
  obtain ⟨zs, hzs'⟩ : ∃ zs : Array Value, zs = if n * (TT e).size = 0 then #[] else (TT e).zero.cells := ⟨_, rfl⟩
  have hzz : n * (TT e).size = 0 ∨ zs = (TT e).zero.cells := by
    by_cases h0 : n * (TT e).size = 0
    · exact .inl h0
    · right; rw [hzs', if_neg h0]
  obtain ⟨out, ho', hs, hv⟩ := fill_ok _ _ _ cs ((Array.range (n * (TT e).size)).map (zs[· % zs.size]!)) hf h1 h2 hone (by simp [zerosA, hzs]) (fun i a u ha hu => by
    simp only [zerosA, List.getElem?_map, Array.getElem?_map, hzs] at ha hu
    rcases hzz with hzz | rfl
    · rw [hzz] at ha; simp at ha
    · by_cases hi : i < n * (TT e).size
      · rw [List.getElem?_range hi] at ha
        rw [Array.getElem?_range, if_pos hi] at hu
        simp only [Option.map_some, Option.some.injEq] at ha hu
        subst ha; subst hu
        rw [hzs]
        exact .v _
      · rw [List.getElem?_eq_none (by simpa using hi)] at ha; cases ha)
  obtain ⟨hc', ev⟩ := hc.alloc (ty := e) (cs := cs) (arr := out) (by omega) hv
  have hlen : out.size = n * (TT e).size := by
    rw [hs, afill_length hf]
    simp [zerosA, hzs]
  refine ⟨.slice (some ⟨w.heap.size, 0, none⟩) n n, _, _, _, _, _, ?_, ⟨rfl, rfl⟩, .sl (B := ⟨w.heap.size, out.size⟩) (c := n) (by simp [Rho.new]) (Nat.le_refl _) hn (by simp [hlen]), hc', ev⟩
  have hnb : ¬ (n * (TT e).size > 2 ^ 24) := by omega
  have hnew : ∀ (w : World), (newRow e out).run P w = .ok ⟨w.heap.size, 0, none⟩ (w.alloc (.cells out e)) := fun w => by simp only [newRow, newObj, Sem.run_bind, Sem.run, Result.andThen]; rfl
  by_cases h0 : n * (TT e).size = 0
  · rw [if_pos h0] at hzs'
    subst hzs'
    simp only [execOp, ho, Instr.buildSlice, Sem.run_bind, (hT t hok).run_und w, hu, Result.andThen, (hT e hoke).run_size w, if_neg hnb, if_pos h0, Sem.run_pure, ho', hnew]
  · rw [if_neg h0] at hzs'
    subst hzs'
    simp only [execOp, ho, Instr.buildSlice, Sem.run_bind, (hT t hok).run_und w, hu, Result.andThen, (hT e hoke).run_size w, if_neg hnb, if_neg h0, (hT e hoke).run_zero w, Sem.run_pure, ho', hnew]

/-! ### Closures and calls -/

omit hT in
theorem AStepD.makeFunc {fn : Fn} {caps : Array Operand} (ho : o.op = .makeFunc fn #[] caps) : AStepD P o T H (.func fn (caps.toList.map (aev T))) H := by
  refine .of_pure fun ρ I w a _ ht => ⟨.func fn #[] (caps.map a.eval), by simp only [execOp, ho, Instr.makeFunc, Sem.run_bind, Sem.run_pure, Result.andThen, show (#[] : Array Operand).map a.eval = #[] from by simp], ?_⟩
  have : (caps.map a.eval) = (caps.toList.map a.eval).toArray := by apply Array.ext'; simp
  rw [this]
  refine .func (by simp) (fun i x u hx hu => ?_)
  rw [List.getElem?_map] at hx hu
  cases hq : caps.toList[i]? with
  | none => rw [hq] at hx; cases hx
  | some q => rw [hq] at hx hu; cases hx; cases hu; exact aev_cv ht q

omit hT in
theorem AStepD.makeInterface {t : TypeId} {x : Operand} (ho : o.op = .makeInterface t x) (hr : ∀ v w, (Instr.makeInterface t v).run P w = .ok (.iface t v) w) : AStepD P o T H (.iface t (aev T x)) H :=
  .of_pure fun ρ I w a _ ht => ⟨.iface t (a.eval x), by simp [execOp, ho, hr], .iface (aev_cv ht x)⟩

omit hT in
def Enters (P : Program) (f : FuncId) : Prop := ∀ args w, (callFunc f args).run P w = .ok (.enter f args) w

omit hT in
theorem Enters.mk {f : FuncId} {fn : Func} (hf : P.funcs[f]? = some fn) (h1 : (fn.name == "runtime.NumGoroutine") = false) (h2 : fn.body.isNone = false) : Enters P f := by
  intro args w
  simp only [callFunc, program, Sem.run_bind, Sem.run, Result.andThen, hf, h1, h2, Bool.false_eq_true, if_false, Sem.run_pure]

omit hT in
theorem args_cvs {ρ : Rho} {I : Imm} {a : Act} (ht : TV ρ I T a) (xs : List Operand) : CVs ρ I (xs.map (aev T)) (xs.map a.eval) := by
  refine ⟨by simp, fun i x u hx hu => ?_⟩
  rw [List.getElem?_map] at hx hu
  cases hq : xs[i]? with
  | none => rw [hq] at hx; cases hx
  | some q => rw [hq] at hx hu; cases hx; cases hu; exact aev_cv ht q

omit hT in
theorem AStep.call {x : Operand} {args : Array Operand} {ats : Array TypeId} {f : FuncId} {caps : List AV} {K : AV → AHeap → Prop} (ho : o.op = .call { callee := .value x, args := args, argTypes := ats }) (hx : aev T x = .func (.func f) caps) (he : Enters P f)
    (h : ACalls P f (args.toList.map (aev T) ++ caps) H K) : AStep P o T H K := by
  intro ρ I w a hc ht Q
  have hv := aev_eq ht hx
  obtain ⟨vs, hvs, hl, hcv⟩ : ∃ vs : List Value, a.eval x = .func (.func f) #[] vs.toArray ∧ vs.length = caps.length ∧ ∀ (i : Nat) a u, caps[i]? = some a → vs[i]? = some u → CV ρ I a u := by
    generalize a.eval x = u at hv
    cases hv with
    | func hl hv => exact ⟨_, rfl, hl, hv⟩
  have hrun : (execOp a.eval o).run P w = .ok (.enter f (args.toList.map a.eval ++ vs).toArray) w := by
    have e1 : #[] ++ args.map a.eval ++ vs.toArray = (args.toList.map a.eval ++ vs).toArray := by apply Array.ext'; simp
    simp only [execOp, ho, resolve, hvs, Deferred.ofValue, Sem.run_bind, Sem.run_pure, Result.andThen, invoke]
    rw [e1]
    exact he _ w
  have hargs : CVs ρ I (args.toList.map (aev T) ++ caps) (args.toList.map a.eval ++ vs) := by
    obtain ⟨h1, h2⟩ := args_cvs ht args.toList
    exact ⟨by simp [hl], cv_append h1 h2 hcv⟩
  refine ⟨fun _ _ => trivial, ?_⟩
  rw [Fence.wide_round, Oper.semAt_none, hrun]
  refine ⟨fun hh => (by simp [Fence.wide] at hh), callsIn_wide.2 ((h ρ I w _ hc hargs).mono ?_)⟩
  rintro e w' ⟨u, r, ρ', I', H', rfl, hk, hr, hc', ev⟩
  exact ⟨u, r, ρ', I', H', rfl, hk, hr, hc', ev⟩

omit hT in
theorem AStep.callf {f : FuncId} {args : Array Operand} {ats : Array TypeId} {K : AV → AHeap → Prop} (ho : o.op = .call { callee := .value (.func f), args := args, argTypes := ats }) (he : Enters P f)
    (h : ACalls P f (args.toList.map (aev T)) H K) : AStep P o T H K :=
  .call ho rfl he (by simpa using h)

end

/-! ### The begin and the end of a function -/

def Shift (H : AHeap) (xs : List AV) (H' : AHeap) (xs' : List AV) : Prop :=
  ∀ ρ I w us, Conc ρ I w H → CVs ρ I xs us → ∃ I', Conc ρ I' w H' ∧ CVs ρ I' xs' us ∧ Ev ρ I w H ρ I' w H'

theorem Shift.refl (H : AHeap) (xs : List AV) : Shift H xs H xs := fun ρ I w _ hc hx => ⟨I, hc, hx, .refl ρ I w H⟩
theorem Shift.trans {H H1 H2 : AHeap} {xs xs1 xs2 : List AV} (a : Shift H xs H1 xs1) (b : Shift H1 xs1 H2 xs2) : Shift H xs H2 xs2 := by
  intro ρ I w us hc hx
  obtain ⟨I1, hc1, hx1, ev1⟩ := a ρ I w us hc hx
  obtain ⟨I2, hc2, hx2, ev2⟩ := b ρ I1 w us hc1 hx1
  exact ⟨I2, hc2, hx2, ev1.trans ev2⟩
theorem Shift.drop {H H' : AHeap} (xs : List AV) (hs : SubH H H') : Shift H xs H' xs := fun _ I _ _ hc hx => ⟨I, hc.sub hs, hx, .sub hs⟩

inductive Frz (l : Nat) (cs : List AV) : AV → AV → Prop
  | same (x : AV) : Frz l cs x x
  | sl {off len k : Nat} (h : off + len * k ≤ cs.length) : Frz l cs (.sl l off len k) (.vec len ((cs.drop off).take (len * k)))
  | nil : Frz l cs (.v (.slice none 0 0)) (.vec 0 [])
  | any (x : AV) : Frz l cs x .any

theorem FrzT {l : Nat} {cs : List AV} {T T' : Fr} (hT : ∀ p ∈ T', Frz l cs (look T p.1) p.2) (i : Nat) : Frz l cs (look T i) (look T' i) := by
  induction T' with
  | nil => exact .any _
  | cons p r ih =>
    obtain ⟨j, x⟩ := p
    rw [look_cons]
    split
    · rename_i e; subst e; exact hT (i, x) (by simp)
    · exact ih fun q hq => hT q (by simp [hq])

theorem Frz.cv {ρ : Rho} {I I' : Imm} {l : Nat} {cs : List AV} {B : Blk} {arr : Array Value} (hB : ρ l = some B) (hI : ∀ b a, I b = some a → I' b = some a) (hIb : I' B.b = some arr) (hl : cs.length ≤ arr.size)
    (hv : ∀ (i : Nat) a u, cs[i]? = some a → arr[i]? = some u → CV ρ I a u) {x y : AV} (h : Frz l cs x y) {u : Value} (hu : CV ρ I x u) : CV ρ I' y u := by
  cases h with
  | same => exact hu.mono (fun _ _ h => h) hI
  | any => exact .any u
  | nil => cases hu; exact .vec0
  | @sl off len k hf =>
    cases hu with
    | @sl _ _ _ _ c B' hB' h1 h2 h3 =>
      rw [hB] at hB'; cases hB'
      refine .vec (vs := (arr.toList.drop off).take (len * k)) h1 h2 hIb (by simp; omega) (fun i u hu => ?_) (fun i a u ha hu => ?_)
      · rw [List.getElem?_take] at hu
        split at hu
        · rw [List.getElem?_drop] at hu; simpa using hu
        · cases hu
      · rw [List.getElem?_take] at hu ha
        split at hu
        · rename_i hj; rw [if_pos hj] at ha
          rw [List.getElem?_drop] at hu ha
          exact (hv _ a u ha (by simpa using hu)).mono (fun _ _ h => h) hI
        · cases hu

theorem Conc.freeze {ρ : Rho} {I : Imm} {w : World} {H : AHeap} (hc : Conc ρ I w H) {l : Nat} {t : TypeId} {cs : List AV} (hl : H.get l = some (.cells t cs)) :
    ∃ I' B arr, ρ l = some B ∧ (∀ b a, I b = some a → I' b = some a) ∧ I' B.b = some arr ∧ cs.length ≤ arr.size ∧ (∀ (i : Nat) a u, cs[i]? = some a → arr[i]? = some u → CV ρ I a u) ∧ Conc ρ I' w (H.del l) ∧ Ev ρ I w H ρ I' w (H.del l) := by
  obtain ⟨B, hB, hIB, arr, harr, hsz, hcl, hv⟩ := hc.obj l _ hl
  have hI : ∀ b a, I b = some a → (fun b => if b = B.b then some arr else I b) b = some a := by
    intro b a h
    show (if b = B.b then some arr else I b) = some a
    rw [if_neg]
    · exact h
    · rintro rfl; rw [hIB] at h; cases h
  have hs := SubH.del H l
  refine ⟨fun b => if b = B.b then some arr else I b, B, arr, hB, hI, by simp, hcl, hv, ⟨(hc.sub hs).inj, (hc.sub hs).dom, ?_, ?_, (hc.sub hs).globs (fun _ _ h => h) hI⟩, ⟨fun _ _ h => h, hI, rfl, rfl, rfl, Nat.le_refl _, fun _ _ _ => rfl, fun _ _ h h' => h (h'.sub hs), Nat.le_refl _⟩⟩
  · intro k o hk
    by_cases e : k = l
    · subst e; rw [AHeap.get_del_same] at hk; cases hk
    · rw [AHeap.get_del_ne _ e] at hk
      obtain ⟨C, h1, h2, h3⟩ := hc.obj k o hk
      refine ⟨C, h1, ?_, h3.mono (fun _ _ h => h) hI rfl⟩
      show (if C.b = B.b then some arr else I C.b) = none
      rw [if_neg]
      · exact h2
      · intro eb
        exact e (hc.inj k l C B h1 hB (by simp [hk]) (by simp [hl]) eb)
  · intro b a hb
    change (if b = B.b then some arr else I b) = some a at hb
    split at hb
    · rename_i e; subst e; cases hb; exact ⟨t, _, harr.choose_spec.1⟩
    · exact hc.imm b a hb

theorem Shift.freeze {H : AHeap} {l : Nat} {t : TypeId} {cs xs xs' : List AV} (hl : H.get l = some (.cells t cs)) (hlen : xs'.length = xs.length) (h : ∀ (i : Nat) x y, xs[i]? = some x → xs'[i]? = some y → Frz l cs x y) : Shift H xs (H.del l) xs' := by
  intro ρ I w us hc hx
  obtain ⟨I', B, arr, hB, hI, hIb, hcl, hv, hc', ev⟩ := hc.freeze hl
  refine ⟨I', hc', ⟨by rw [hlen]; exact hx.1, fun i y u hy hu => ?_⟩, ev⟩
  have hi : i < xs.length := by rw [← hlen]; exact (List.getElem?_eq_some_iff.1 hy).1
  exact (h i xs[i] y (by simp [hi]) hy).cv hB hI hIb hcl hv (hx.2 i xs[i] u (by simp [hi]) hu)

theorem AW.freeze {P : Program} {c : Code} {Q : APost} {T : Fr} {H : AHeap} {n l : Nat} {t : TypeId} {cs : List AV} (T' : Fr) (hl : H.get l = some (.cells t cs)) (hT : ∀ p ∈ T', Frz l cs (look T p.1) p.2) (h : AW md P c Q T' (H.del l) n) : AW md P c Q T H n := by
  intro ρ I w a hc ht hn hd
  obtain ⟨I', B, arr, hB, hI, hIb, hcl, hv, hc', ev⟩ := hc.freeze hl
  exact wpIn_mono (h ρ I' w a hc' (fun i => (FrzT hT i).cv hB hI hIb hcl hv (ht i)) hn (hd.ev ev)) fun _ _ _ f => f.of_ev ev

/-! ### The begin and the end of a function -/

def retA (TT : Nat → TI) (T : Fr) (H : AHeap) : List ResultVar → Option (List AV)
  | [] => some []
  | .tmp t :: r => (retA TT T H r).map (look T t :: ·)
  | .cell a t :: r =>
    match look T a with
    | .ptr l off =>
      match H.get l with
      | some (.cells _ cs) => if off + (TT t).size ≤ cs.length ∧ (TT t).ok = true ∧ ((TT t).agg = false → (TT t).size = 1) then (retA TT T H r).map (wrapA (TT t).agg ((cs.drop off).take (TT t).size) :: ·) else none
      | _ => none
    | _ => none

def tupA : List AV → AV
  | [x] => x
  | xs => .tup xs

def resOf (tmps : Array Value) : ResultVar → Sem Value
  | .tmp t => pure (tmps.getD t undef)
  | .cell c t => do loadVar t (← asAddr (tmps.getD c undef))

theorem run_results {P : Program} {TT : Nat → TI} (hT : TOk P TT) {ρ : Rho} {I : Imm} {w : World} {H : AHeap} {T : Fr} {a : Act} (hc : Conc ρ I w H) (ht : TV ρ I T a) : ∀ (rs : List ResultVar) (xs : List AV), retA TT T H rs = some xs →
    ∃ us, (rs.mapM (resOf a.tmps)).run P w = .ok us w ∧ CVs ρ I xs us
  | [], xs, h => by
    simp only [retA, Option.some.injEq] at h
    subst h
    exact ⟨[], by simp, rfl, by simp⟩
  | .tmp t :: r, xs, h => by
    simp only [retA] at h
    cases hr : retA TT T H r with
    | none => rw [hr] at h; cases h
    | some ys =>
      rw [hr] at h
      cases h
      obtain ⟨us, h1, h2, h3⟩ := run_results hT hc ht r ys hr
      refine ⟨a.tmps.getD t undef :: us, ?_, by simp [h2], fun i x u hx hu => ?_⟩
      · simp only [List.mapM_cons, resOf, Sem.run_bind, Sem.run_pure, Result.andThen, h1]
      · match i with
        | 0 => simp only [List.getElem?_cons_zero, Option.some.injEq] at hx hu; subst hx; subst hu; exact ht t
        | i + 1 => exact h3 i x u (by simpa using hx) (by simpa using hu)
  | .cell c t :: r, xs, h => by
    simp only [retA] at h
    split at h
    · rename_i l off hl
      split at h
      · rename_i ty cs hH
        split at h
        · rename_i hk
          cases hr : retA TT T H r with
          | none => rw [hr] at h; cases h
          | some ys =>
            rw [hr] at h
            cases h
            obtain ⟨us, h1, h2, h3⟩ := run_results hT hc ht r ys hr
            have hv := ht c
            rw [hl] at hv
            obtain ⟨B, hB, _, hat⟩ := hc.obj l _ hH
            obtain ⟨vs, hvl, hcell, hcv⟩ := obj_stretch hat hk.1
            have he : a.tmps.getD c undef = .pointer (some ⟨B.b, off, none⟩) := by
              generalize a.tmps.getD c undef = u at hv
              cases hv with | ptr h => rw [hB] at h; cases h; rfl
            refine ⟨(if (TT t).agg then .agg vs.toArray else vs.headD undef) :: us, ?_, by simp [h2], fun i x u hx hu => ?_⟩
            · simp only [List.mapM_cons, resOf, Sem.run_bind, he, asAddr, Sem.run_pure, Result.andThen, run_loadVar (hT t hk.2.1) hvl hk.2.2 hcell, h1]
            · match i with
              | 0 =>
                simp only [List.getElem?_cons_zero, Option.some.injEq] at hx hu
                subst hx; subst hu
                exact cv_wrap (by simp [hvl]; omega) hcv (by intro e; have := hk.2.2 e; simp; omega)
              | i + 1 => exact h3 i x u (by simpa using hx) (by simpa using hu)
        · cases h
      · cases h
    · cases h

def RetQ (TT : Nat → TI) (rs : Array ResultVar) (R : AV → AHeap → Prop) : APost := fun e T H =>
  (e = .normal ∨ e = .ret) ∧ ∃ xs x H', retA TT T H rs.toList = some xs ∧ Shift H [tupA xs] H' [x] ∧ R x H'

theorem Conc.putObj {ρ : Rho} {I : Imm} {w : World} {H : AHeap} (hc : Conc ρ I w H) {D : Nat} (o' : Obj) (ho : ¬ Owned ρ H D) (hI : I D = none) : Conc ρ I (w.putObj D o') H where
  inj := hc.inj
  dom := hc.dom
  glob := hc.glob
  obj l o h := by
    obtain ⟨B, hB, hIB, hO⟩ := hc.obj l o h
    have hne : B.b ≠ D := fun e => ho ⟨l, B, hB, e, by simp [h]⟩
    exact ⟨B, hB, hIB, hO.mono (fun _ _ h => h) (fun _ _ h => h) (World.putObj_heap_other hne)⟩
  imm b arr h := by
    have hne : b ≠ D := fun e => by subst e; rw [hI] at h; cases h
    obtain ⟨t, fz, hb⟩ := hc.imm b arr h
    exact ⟨t, fz, (World.putObj_heap_other hne).trans hb⟩

theorem Ev.putObj {ρ : Rho} {I : Imm} {w : World} {H : AHeap} {ρ' : Rho} {I' : Imm} {w' : World} {H' : AHeap} (e : Ev ρ I w H ρ' I' w' H') {D : Nat} (o : Obj) (hD : w.heap.size ≤ D) : Ev ρ I w H ρ' I' (w'.putObj D o) H' where
  rho := e.rho
  imm := e.imm
  os := e.os
  tape := e.tape
  output := e.output
  size := by rw [World.putObj_size]; exact e.size
  blk b hb ho := (World.putObj_heap_other (by omega)).trans (e.blk b hb ho)
  own := e.own
  next := e.next

theorem leavesM_of {P : Program} {fn : Func} {tmps : Array Value} {R : Ending → World → Prop} {ρ0 : Rho} {I0 : Imm} {w0 : World} {H0 : AHeap} {ρ : Rho} {I : Imm} {H : AHeap} :
    ∀ {ds : List Deferred} {w : World}, DOK md ρ w H ds → w0.heap.size ≤ md.base → Conc ρ I w H → Ev ρ0 I0 w0 H0 ρ I w H →
      (∀ w', Conc ρ I w' H → Ev ρ0 I0 w0 H0 ρ I w' H → LeavesIn Fence.wide 0 P fn tmps R [] .returning w') → LeavesInM Fence.wide 0 P fn tmps R ds .returning w
  | [], w, _, _, hc, ev, k => k w hc ev
  | d :: ds, w, hd, hb, hc, ev, k => by
    obtain ⟨D, rfl, h1, h2, h3⟩ := hd.2.2 d (List.mem_cons_self ..)
    have hI : I D = none := by
      cases hi : I D with
      | none => rfl
      | some arr =>
        obtain ⟨t, fz, hh⟩ := hc.imm D arr hi
        rw [h2] at hh; cases hh
    refine ⟨by simp, .inl ⟨D, _, rfl, run_takeDeferred h2, ?_⟩⟩
    refine leavesM_of ⟨by rw [World.putObj_size]; exact hd.1, (List.nodup_cons.1 hd.2.1).2, fun d' hd' => ?_⟩ hb (hc.putObj _ h3 hI) (ev.putObj _ (Nat.le_trans hb h1)) k
    obtain ⟨D', rfl, h1', h2', h3'⟩ := hd.2.2 d' (List.mem_cons_of_mem _ hd')
    refine ⟨D', rfl, h1', (World.putObj_heap_other ?_).trans h2', h3'⟩
    rintro rfl
    exact (List.nodup_cons.1 hd.2.1).1 hd'

theorem ACalls.of_body {P : Program} {TT : Nat → TI} (hT : TOk P TT) {f : FuncId} {fn : Func} {c : Code} {args : List AV} {H : AHeap} {R : AV → AHeap → Prop} {n : Nat} (hf : P.funcs[f]? = some fn) (hb : fn.body = some c) (hn : fn.ntmps = n) (ha : args.length ≤ n)
    (h : ∀ base, AW { base := base } P c (RetQ TT fn.results R) (initT args) H n) : ACalls P f args H R := by
  intro ρ I w vs hc hvs
  refine (callsIn_wide (n := 0)).1 (callsIn_of_wp_marks hf hb trivial ?_)
  have hsz : vs.toArray.size = args.length := by simpa using hvs.1
  refine wpIn_mono (h w.heap.size ρ I w _ hc (initT_tv hvs _) (by simp [hn]; have := hvs.1; omega) (.nil (Nat.le_refl _))) ?_
  intro e a' w1 ⟨T', ρ', I', H', ⟨he, xs, x, H1, hr, hs, hR⟩, hc1, ht', hn', hd1, ev1⟩
  suffices LeavesInM Fence.wide 0 P fn a'.tmps (fun e w' => ∃ u r ρ' I' H', e = .returned u ∧ R r H' ∧ CV ρ' I' r u ∧ Conc ρ' I' w' H' ∧ Ev ρ I w H ρ' I' w' H') a'.defers .returning w1 by
    rcases he with rfl | rfl
    · exact this
    · exact this
  refine leavesM_of hd1 (Nat.le_refl _) hc1 ev1 fun w' hc' ev => ?_
  clear hd1 hc1 ev1
  obtain ⟨us, hrun, hus⟩ := run_results hT hc' ht' _ xs hr
  obtain ⟨u, hu, hcv⟩ : ∃ u, (results fn a'.tmps).run P w' = .ok u w' ∧ CV ρ' I' (tupA xs) u := by
    have hrun' : (fn.results.mapM (resOf a'.tmps)).run P w' = .ok us.toArray w' := by
      rw [Array.mapM_eq_mapM_toList]
      show ((fn.results.toList.mapM (resOf a'.tmps)) >>= fun l => (pure l.toArray : Sem (Array Value))).run P w' = _
      simp only [Sem.run_bind, hrun, Result.andThen, Sem.run_pure]
    have hres : results fn a'.tmps = (fn.results.mapM (resOf a'.tmps)) >>= fun vs => pure (if h : vs.size = 1 then vs[0] else .tuple vs) := by
      rfl
    rw [hres, Sem.run_bind, hrun']
    simp only [Result.andThen, Sem.run_pure]
    refine ⟨_, rfl, ?_⟩
    by_cases h1 : us.length = 1
    · obtain ⟨u, rfl⟩ := List.length_eq_one_iff.1 h1
      obtain ⟨y, rfl⟩ := List.length_eq_one_iff.1 (hus.1.symm.trans h1)
      exact hus.2 0 y u rfl rfl
    · have hx1 : xs.length ≠ 1 := by rw [← hus.1]; exact h1
      have : tupA xs = .tup xs := by
        match xs, hx1 with
        | [], _ => rfl
        | [_], h => exact (h rfl).elim
        | _ :: _ :: _, _ => rfl
      rw [this]
      simp only [List.size_toArray, h1, dite_false]
      exact .tup hus.1 hus.2
  obtain ⟨I2, hc2, hx2, ev2⟩ := hs ρ' I' w' [u] hc' ⟨rfl, fun i a v ha hv => by
    match i with
    | 0 => simp only [List.getElem?_cons_zero, Option.some.injEq] at ha hv; subst ha; subst hv; exact hcv
    | i + 1 => simp at ha⟩
  exact ⟨u, hu, u, x, ρ', I2, H1, rfl, hR, hx2.2 0 x u rfl rfl, hc2, ev.trans ev2⟩

end Go.Ax

/- The abstract layer, part 10: steps in the form in which a walk takes them. -/

namespace Go.Ax
set_option linter.unusedSectionVars false
variable [Tabs]
variable {md : Md}

section
variable {P : Program} {ops : Array Oper} {Q : APost} {os : List Oper} {T : Fr} {H H1 : AHeap} {n : Nat} {o : Oper} {x : AV}

theorem AL.step {d : Nat} (hg : o.guard = none) (hd : o.dst = some d) (hn : Nat.blt d n = true) (h : AStepD P o T H x H1) (k : AL md P ops Q os ((d, x) :: T) H1 n) : AL md P ops Q (o :: os) T H n := by
  refine AL.cons hg (by simp only [dstB, hd]; exact decide_eq_true (Eq.mp Nat.blt_eq hn)) h ?_
  rintro y H' ⟨rfl, rfl⟩
  rw [hd]; exact k
theorem AL.step0 (hg : o.guard = none) (hd : o.dst = none) (h : AStepD P o T H x H1) (k : AL md P ops Q os T H1 n) : AL md P ops Q (o :: os) T H n := by
  refine AL.cons hg (by simp only [dstB, hd]) h ?_
  rintro y H' ⟨rfl, rfl⟩
  rw [hd]; exact k

theorem AL.bool (e : Nat) {b : Bool} (hb : look T e = .v (.bool b)) (h1 : b = true → AL md P ops Q os ((e, .v (.bool true)) :: T) H n) (h2 : b = false → AL md P ops Q os ((e, .v (.bool false)) :: T) H n) : AL md P ops Q os T H n := by
  intro ρ0 I0 w0 H0 ρ I w a ev hc ht hn hd
  have key : TV ρ I ((e, .v (.bool b)) :: T) a := by
    intro i
    rw [look_cons]
    split
    · rename_i h; subst h; rw [← hb]; exact ht i
    · exact ht i
  cases b with
  | true => exact h1 rfl ρ0 I0 w0 H0 ρ I w a ev hc key hn hd
  | false => exact h2 rfl ρ0 I0 w0 H0 ρ I w a ev hc key hn hd

theorem AL.call {d : Nat} {K : AV → AHeap → Prop} (hg : o.guard = none) (hd : o.dst = some d) (hn : Nat.blt d n = true) (h : AStep P o T H K) (k : ∀ y H', K y H' → AL md P ops Q os ((d, y) :: T) H' n) : AL md P ops Q (o :: os) T H n := by
  refine AL.cons hg (by simp only [dstB, hd]; exact decide_eq_true (Eq.mp Nat.blt_eq hn)) h ?_
  intro y H' hk
  rw [hd]; exact k y H' hk
end

theorem AW.bool {P : Program} {c : Code} {Q : APost} {T : Fr} {H : AHeap} {n : Nat} (e : Nat) {b : Bool} (hb : look T e = .v (.bool b)) (h1 : b = true → AW md P c Q ((e, .v (.bool true)) :: T) H n) (h2 : b = false → AW md P c Q ((e, .v (.bool false)) :: T) H n) : AW md P c Q T H n := by
  intro ρ I w a hc ht hn hd
  have key : TV ρ I ((e, .v (.bool b)) :: T) a := by
    intro i
    rw [look_cons]
    split
    · rename_i h; subst h; rw [← hb]; exact ht i
    · exact ht i
  cases b with
  | true => exact h1 rfl ρ I w a hc key hn hd
  | false => exact h2 rfl ρ I w a hc key hn hd

theorem RetQ.mk {TT : Nat → TI} {rs : Array ResultVar} {R : AV → AHeap → Prop} {e : Exit} {T : Fr} {H : AHeap} (he : e = .normal ∨ e = .ret) {xs : List AV} (hr : retA TT T H rs.toList = some xs) (h : R (tupA xs) H) : RetQ TT rs R e T H :=
  ⟨he, xs, tupA xs, H, hr, .refl _ _, h⟩

/-! ### Steps with their values written out -/
section
variable {P : Program} {o : Oper} {T : Fr} {H : AHeap} {y : AV}

theorem AStepD.move' {x : Operand} (ho : o.op = .move x) (hv : aev T x = y) : AStepD P o T H y H := hv ▸ .move ho
theorem AStepD.assign' {x : Operand} (ho : o.op = .assign x) (hv : aev T x = y) : AStepD P o T H y H := hv ▸ .assign ho
theorem AStepD.nilCheck_ptr {x : Operand} {l off : Nat} (ho : o.op = .nilCheck x) (hv : aev T x = .ptr l off) : AStepD P o T H (.ptr l off) H := hv ▸ .nilCheck ho (.inl ⟨_, _, hv⟩)
theorem AStepD.nilCheck_ip {x : Operand} {cs : List AV} (ho : o.op = .nilCheck x) (hv : aev T x = .ip cs) : AStepD P o T H (.ip cs) H := hv ▸ .nilCheck ho (.inr (.inl ⟨_, hv⟩))
theorem AStepD.nilCheck_func {x : Operand} {f : FuncId} {cs : List AV} (ho : o.op = .nilCheck x) (hv : aev T x = .func (.func f) cs) : AStepD P o T H (.func (.func f) cs) H := hv ▸ .nilCheck ho (.inr (.inr ⟨_, _, hv⟩))
theorem AStepD.pick_true' {c x z : Operand} (ho : o.op = .pick c x z) (hc : aev T c = .v (.bool true)) (hv : aev T x = y) : AStepD P o T H y H := hv ▸ .pick_true ho hc
theorem AStepD.pick_false' {c x z : Operand} (ho : o.op = .pick c x z) (hc : aev T c = .v (.bool false)) (hv : aev T z = y) : AStepD P o T H y H := hv ▸ .pick_false ho hc

variable {TT : Nat → TI} (hT : TOk P TT)
include hT
theorem AStepD.fieldAddr' {s : TypeId} {x : Operand} {k l off off' : Nat} {fs : Array Field} {f : Field} (ho : o.op = .fieldAddr s x k) (hx : aev T x = .ptr l off) (hok : (TT s).ok = true) (hs : (TT s).und = .struct fs) (hf : fs[k]? = some f)
    (hokf : (TT f.type).ok = true) (h0 : Nat.beq (TT f.type).size 0 = false) (hv : off + f.offset = off') : AStepD P o T H (.ptr l off') H := hv ▸ .fieldAddr hT ho hx hok hs hf hokf (fun h => by rw [h] at h0; cases h0)
theorem AStepD.fieldAddr_ip' {s : TypeId} {x : Operand} {k : Nat} {cs cs' : List AV} {fs : Array Field} {f : Field} (ho : o.op = .fieldAddr s x k) (hx : aev T x = .ip cs) (hok : (TT s).ok = true) (hs : (TT s).und = .struct fs) (hf : fs[k]? = some f)
    (hokf : (TT f.type).ok = true) (h0 : Nat.beq (TT f.type).size 0 = false) (hv : cs.drop f.offset = cs') : AStepD P o T H (.ip cs') H := hv ▸ .fieldAddr_ip hT ho hx hok hs hf hokf (fun h => by rw [h] at h0; cases h0)
end

theorem AL.nil_then {P : Program} {ops : Array Oper} {next : Fr → AHeap → Prop} {Q : APost} {T : Fr} {H : AHeap} {n : Nat} (h : next T H) : AL md P ops (AThen next Q) [] T H n := .nil h

theorem AW.seq_region {P : Program} {id : Nat} {ops : Array Oper} {y : Code} {Q : APost} {T : Fr} {H : AHeap} {n : Nat}
    (h : ∀ K : Fr → AHeap → Prop, (∀ T H, AW md P y Q T H n → K T H) → AL md P ops (AThen K Q) ops.toList T H n) : AW md P (.seq (.region id ops false) y) Q T H n :=
  .seq (.region (h _ fun _ _ h => h))

theorem AHeap.ext {H H' : AHeap} (h : ∀ k, H.get k = H'.get k) (hn : H.next = H'.next) : H = H' := by
  cases H; cases H'; simp at h hn; simp [hn]; funext k; exact h k
end Go.Ax

/- The abstract layer, part 11: plain values; calls that leave the heap as it was. -/

namespace Go.Ax
set_option linter.unusedSectionVars false
variable [Tabs]
variable {md : Md}

inductive Plain : AV → Prop
  | v (x : Value) : Plain (.v x)
  | any : Plain .any
  | ip {cs : List AV} (h : ∀ a ∈ cs, Plain a) : Plain (.ip cs)
  | vec {n : Nat} {cs : List AV} (h : ∀ a ∈ cs, Plain a) : Plain (.vec n cs)
  | agg {cs : List AV} (h : ∀ a ∈ cs, Plain a) : Plain (.agg cs)
  | tup {cs : List AV} (h : ∀ a ∈ cs, Plain a) : Plain (.tup cs)
  | func {fn : Fn} {cs : List AV} (h : ∀ a ∈ cs, Plain a) : Plain (.func fn cs)
  | iface {t : TypeId} {a : AV} (h : Plain a) : Plain (.iface t a)
  | num (k : IntKind) : Plain (.num k)
  | cond {b : Bool} {a : AV} (h : Plain a) : Plain (.cond b a)

theorem CV.plain {ρ ρ' : Rho} {I : Imm} {a : AV} {u : Value} (h : CV ρ I a u) (hp : Plain a) : CV ρ' I a u := by
  induction h with
  | v x => exact .v x
  | any y => exact .any y
  | ptr h => cases hp
  | ip h hl hc _ ih => cases hp with | ip hp => exact .ip h hl hc fun i a u ha hu => ih i a u ha hu (hp a (List.mem_of_getElem? ha))
  | sl h hl hm hs => cases hp
  | slc => cases hp
  | slx => cases hp
  | vec0 => exact .vec0
  | vec hn hm h hl hc _ ih => cases hp with | vec hp => exact .vec hn hm h hl hc fun i a u ha hu => ih i a u ha hu (hp a (List.mem_of_getElem? ha))
  | map h => cases hp
  | func hl _ ih => cases hp with | func hp => exact .func hl fun i a u ha hu => ih i a u ha hu (hp a (List.mem_of_getElem? ha))
  | agg hl _ ih => cases hp with | agg hp => exact .agg hl fun i a u ha hu => ih i a u ha hu (hp a (List.mem_of_getElem? ha))
  | tup hl _ ih => cases hp with | tup hp => exact .tup hl fun i a u ha hu => ih i a u ha hu (hp a (List.mem_of_getElem? ha))
  | iface _ ih => cases hp with | iface hp => exact .iface (ih hp)
  | yld h => cases hp
  | num n => exact .num n
  | cond _ h0 ih => cases hp with | cond hp => exact .cond (fun hb => ih hb hp) h0

theorem CV.restrict {ρ ρ' : Rho} {I I' : Imm} (hρ : ∀ l B, ρ l = some B → ρ' l = some B) {a : AV} {u0 u : Value} (h0 : CV ρ I a u0) (h : CV ρ' I' a u) : CV ρ I' a u := by
  induction h generalizing u0 with
  | v x => exact .v x
  | any y => exact .any y
  | num n => exact .num n
  | @ptr l off B h =>
    cases h0 with | @ptr _ _ B0 h0 => have := hρ _ _ h0; rw [h] at this; cases this; exact .ptr h0
  | @ip cs b off arr vs h hl hc _ ih =>
    cases h0 with
    | @ip _ b0 off0 arr0 vs0 g gl gc gv =>
      refine .ip h hl hc fun i a u ha hu => ?_
      have hi : i < vs0.length := by rw [gl]; exact (List.getElem?_eq_some_iff.1 ha).1
      exact ih i a u ha hu (gv i a vs0[i] ha (by simp [hi]))
  | @sl l off len k c B h hl hm hs =>
    cases h0 with | @sl _ _ _ _ c0 B0 h0 _ _ _ => have := hρ _ _ h0; rw [h] at this; cases this; exact .sl h0 hl hm hs
  | @slx l off len cap k B h hl hm hs =>
    cases h0 with | @slx _ _ _ _ _ B0 h0 _ _ _ => have := hρ _ _ h0; rw [h] at this; cases this; exact .slx h0 hl hm hs
  | @slc l off len cap k c B h hl hc hm hs =>
    cases h0 with | @slc _ _ _ _ _ c0 B0 h0 _ _ _ _ => have := hρ _ _ h0; rw [h] at this; cases this; exact .slc h0 hl hc hm hs
  | @yld l B h =>
    cases h0 with | @yld _ B0 h0 => have := hρ _ _ h0; rw [h] at this; cases this; exact .yld h0
  | vec0 => exact .vec0
  | @vec n c cs b off arr vs hn hm h hl hc hv ih =>
    cases h0 with
    | vec0 =>
      refine .vec hn hm h hl hc fun i a u ha hu => by simp at ha
    | @vec _ c0 _ b0 off0 arr0 vs0 gn gm g gl gc gv =>
      refine .vec hn hm h hl hc fun i a u ha hu => ?_
      have hi : i < vs0.length := by rw [gl]; exact (List.getElem?_eq_some_iff.1 ha).1
      exact ih i a u ha hu (gv i a vs0[i] ha (by simp [hi]))
  | @map l B h =>
    cases h0 with | @map _ B0 h0 => have := hρ _ _ h0; rw [h] at this; cases this; exact .map h0
  | @func fn cs vs hl _ ih =>
    cases h0 with
    | @func _ _ vs0 gl gv =>
      refine .func hl fun i a u ha hu => ?_
      have hi : i < vs0.length := by rw [gl]; exact (List.getElem?_eq_some_iff.1 ha).1
      exact ih i a u ha hu (gv i a vs0[i] ha (by simp [hi]))
  | @agg cs vs hl _ ih =>
    cases h0 with
    | @agg _ vs0 gl gv =>
      refine .agg hl fun i a u ha hu => ?_
      have hi : i < vs0.length := by rw [gl]; exact (List.getElem?_eq_some_iff.1 ha).1
      exact ih i a u ha hu (gv i a vs0[i] ha (by simp [hi]))
  | @tup cs vs hl _ ih =>
    cases h0 with
    | @tup _ vs0 gl gv =>
      refine .tup hl fun i a u ha hu => ?_
      have hi : i < vs0.length := by rw [gl]; exact (List.getElem?_eq_some_iff.1 ha).1
      exact ih i a u ha hu (gv i a vs0[i] ha (by simp [hi]))
  | iface _ ih => cases h0 with | iface h0 => exact .iface (ih h0)
  | @cond b a u _ h00 ih =>
    cases h0 with | cond h0 _ => exact .cond (fun hb => ih hb (h0 hb)) h00

theorem ACalls.quiet {P : Program} {f : FuncId} {args : List AV} {H : AHeap} {R : AV → AHeap → Prop} (h : ACalls P f args H R) (hq : ∀ r H', R r H' → Plain r ∧ ∀ l o, H.get l = some o → H'.get l = some o) :
    ACalls P f args H fun r H' => H' = H ∧ ∃ H'', R r H'' := by
  intro ρ I w vs hc ha
  refine (h ρ I w vs hc ha).mono ?_
  rintro e w' ⟨u, r, ρ', I', H', he, hR, hr, hc', ev⟩
  obtain ⟨hp, hs⟩ := hq r H' hR
  refine ⟨u, r, ρ, I', H, he, ⟨rfl, H', hR⟩, hr.plain hp, ⟨hc.inj, hc.dom, ?_, hc'.imm, hc.globs (fun _ _ h => h) ev.imm⟩, ⟨fun _ _ h => h, ev.imm, ev.os, ev.tape, ev.output, ev.size, ev.blk, fun b _ h => h, Nat.le_refl _⟩⟩
  intro l o hl
  obtain ⟨B, hB, _, hat⟩ := hc.obj l o hl
  obtain ⟨B', hB', hI', hat'⟩ := hc'.obj l o (hs l o hl)
  have := ev.rho l B hB
  rw [hB'] at this
  cases this
  refine ⟨B, hB, hI', ?_⟩
  cases o with
  | cells t cs =>
    obtain ⟨arr, h1, h2, h3, h4⟩ := hat'
    obtain ⟨arr0, g1, g2, g3, g4⟩ := hat
    refine ⟨arr, h1, h2, h3, fun i a u ha hu => ?_⟩
    have hi : i < arr0.size := Nat.lt_of_lt_of_le (List.getElem?_eq_some_iff.1 ha).1 g3
    exact (g4 i a arr0[i] ha (by simp [hi])).restrict ev.rho (h4 i a u ha hu)
  | map es =>
    obtain ⟨ents, clock, h1, h2, h3, h4, h5⟩ := hat'
    obtain ⟨ents0, clock0, g1, g2, g3, g4, g5⟩ := hat
    refine ⟨ents, clock, h1, h2, fun i e en he hn => ⟨(h3 i e en he hn).1, ?_⟩, h4, h5⟩
    have hi : i < ents0.size := by rw [g2]; exact (List.getElem?_eq_some_iff.1 he).1
    exact (g3 i e ents0[i] he (by simp [hi])).2.restrict ev.rho (h3 i e en he hn).2
  | obj o => exact hat'
  | lp rec cs =>
    exact ⟨hat'.1, fun i a ha => (hat.2 i a ha).restrict ev.rho (hat'.2 i a ha)⟩
  | smap es st clock =>
    obtain ⟨ents, h1, h2, h3, h4⟩ := hat'
    obtain ⟨ents0, g1, g2, g3, g4⟩ := hat
    refine ⟨ents, h1, h2, fun i e en he hn => ⟨(h3 i e en he hn).1, ?_⟩, h4⟩
    have hi : i < ents0.size := by rw [g2]; exact (List.getElem?_eq_some_iff.1 he).1
    exact (g3 i e ents0[i] he (by simp [hi])).2.restrict ev.rho (h3 i e en he hn).2
  | iter l since seen last =>
    obtain ⟨B1, h1, h2⟩ := hat'
    obtain ⟨B0, g1, g2⟩ := hat
    have := ev.rho _ _ g1
    rw [h1] at this
    cases this
    exact ⟨B1, g1, h2⟩

section
variable {P : Program} {o : Oper} {T : Fr} {H H1 : AHeap} {x : AV}

theorem AStepD.uncond (s : Nat) {g : Bool} {a : AV} (hx : look T s = .cond g a) (hg : g = true) (h : AStepD P o ((s, a) :: T) H x H1) : AStepD P o T H x H1 := by
  intro ρ I w b hc ht Q
  refine h ρ I w b hc (fun i => ?_) Q
  rw [look_cons]
  split
  · rename_i e
    subst e
    have := ht i
    rw [hx] at this
    cases this with | cond h _ => exact h hg
  · exact ht i

theorem AStep.uncond (s : Nat) {g : Bool} {a : AV} {K : AV → AHeap → Prop} (hx : look T s = .cond g a) (hg : g = true) (h : AStep P o ((s, a) :: T) H K) : AStep P o T H K := by
  intro ρ I w b hc ht Q
  refine h ρ I w b hc (fun i => ?_) Q
  rw [look_cons]
  split
  · rename_i e
    subst e
    have := ht i
    rw [hx] at this
    cases this with | cond h _ => exact h hg
  · exact ht i

variable {TT : Nat → TI} (hT : TOk P TT) {y : AV}
include hT
theorem AStepD.field' {s : TypeId} {z : Operand} {k : Nat} {cs : List AV} {fs : Array Field} {f : Field} (ho : o.op = .field s z k) (hx : aev T z = .agg cs) (hok : (TT s).ok = true) (hs : (TT s).und = .struct fs) (hf : fs[k]? = some f)
    (hokf : (TT f.type).ok = true) (hk : f.offset + (TT f.type).size ≤ cs.length) (h1 : (TT f.type).agg = false → (TT f.type).size = 1) (hv : wrapA (TT f.type).agg ((cs.drop f.offset).take (TT f.type).size) = y) : AStepD P o T H y H :=
  hv ▸ .field hT ho hx hok hs hf hokf hk h1
end

theorem AW.seq_k {P : Program} {x y : Code} {Q : APost} {T : Fr} {H : AHeap} {n : Nat} (h : ∀ K : Fr → AHeap → Prop, (∀ T H, AW md P y Q T H n → K T H) → AW md P x (AThen K Q) T H n) : AW md P (.seq x y) Q T H n :=
  .seq (h _ fun _ _ h => h)

theorem AW.cond_true {P : Program} {c : Operand} {x y : Code} {Q : APost} {T : Fr} {H : AHeap} {n : Nat} {b : Bool} (hb : aev T c = .v (.bool b)) (ht : b = true) (h : AW md P x Q T H n) : AW md P (.cond c x y) Q T H n :=
  .cond b hb (fun _ => h) (fun hf => by rw [ht] at hf; cases hf)
theorem AW.cond_false {P : Program} {c : Operand} {x y : Code} {Q : APost} {T : Fr} {H : AHeap} {n : Nat} {b : Bool} (hb : aev T c = .v (.bool b)) (hf : b = false) (h : AW md P y Q T H n) : AW md P (.cond c x y) Q T H n :=
  .cond b hb (fun ht => by rw [hf] at ht; cases ht) (fun _ => h)

end Go.Ax

/- The abstract layer, part 12: a region that draws its order. Its operations are run in the order of the text; those that change the heap stand in one forced order; each other one is shown to do the same at every heap at which it may be run. Then every order serves. -/

namespace Go.Ax
set_option linter.unusedSectionVars false
variable [Tabs]
variable {md : Md}

def GStep (P : Program) (ops : Array Oper) (n : Nat) (o : Oper) (T : Fr) (H : AHeap) (x : AV) (H1 : AHeap) : Prop :=
  ∀ ρ I w a, Conc ρ I w H → TV ρ I T a → a.tmps.size = n →
    if Region.wanted o (yielded ops a.tmps) then ∀ Q, o.wpIn Fence.wide 0 P a w (Post (fun y H' => y = x ∧ H' = H1) ρ I w H o.dst a) Q else H1 = H ∧ CV ρ I x undef

section
variable {P : Program} {ops : Array Oper} {n : Nat} {o : Oper} {T : Fr} {H H1 : AHeap} {x : AV}

theorem GStep.plain (hg : o.guard = none) (h : AStepD P o T H x H1) : GStep P ops n o T H x H1 := by
  intro ρ I w a hc ht _
  rw [if_pos (by simp [Region.wanted, hg])]
  exact h ρ I w a hc ht
theorem GStep.yes {j e : Nat} {want b : Bool} (hg : o.guard = some (j, want)) (hj : (ops[j]?).bind (·.dst) = some e) (he : Nat.blt e n = true) (hb : look T e = .v (.bool b)) (hbw : b = want) (h : AStepD P o T H x H1) : GStep P ops n o T H x H1 := by
  intro ρ I w a hc ht hn
  have hy := yields ht hj (by rw [hn]; exact Eq.mp Nat.blt_eq he) hb
  rw [if_pos (by simp [Region.wanted, hg, hy, hbw])]
  exact h ρ I w a hc ht
theorem GStep.no {j e : Nat} {want b : Bool} (hg : o.guard = some (j, want)) (hj : (ops[j]?).bind (·.dst) = some e) (he : Nat.blt e n = true) (hb : look T e = .v (.bool b)) (hbw : b = !want) : GStep P ops n o T H (.v undef) H := by
  intro ρ I w a hc ht hn
  have hy := yields ht hj (by rw [hn]; exact Eq.mp Nat.blt_eq he) hb
  rw [if_neg (by rw [hbw] at hy; cases want <;> simp [Region.wanted, hg, hy])]
  exact ⟨rfl, .v _⟩
theorem GStep.may2 {j e : Nat} {want b c : Bool} (hg : o.guard = some (j, want)) (hj : (ops[j]?).bind (·.dst) = some e) (he : Nat.blt e n = true) (hb : look T e = .cond c (.v (.bool b))) (h : c = true → b = want → AStepD P o T H x H) : GStep P ops n o T H (.cond (c && (b == want)) x) H := by
  intro ρ I w a hc ht hn
  cases c with
  | false =>
    have hy : yielded ops a.tmps j = none := by
      have h1 := ht e
      rw [hb] at h1
      cases h1 with
      | cond _ h0 => exact yields_none (T := (e, .v undef) :: T) (ρ := ρ) (I := I) (fun i => by
          rw [look_cons]
          split
          · rename_i q; subst q; rw [h0 rfl]; exact .v _
          · exact ht i) hj (by simp [look_cons])
    rw [if_neg (by simp [Region.wanted, hg, hy])]
    exact ⟨rfl, .cond (fun hb => by simp at hb) (fun _ => rfl)⟩
  | true =>
    have hy : yielded ops a.tmps j = some b := by
      have h1 := ht e
      rw [hb] at h1
      cases h1 with
      | cond h1 _ => exact yields (T := (e, .v (.bool b)) :: T) (ρ := ρ) (I := I) (fun i => by
          rw [look_cons]
          split
          · rename_i q; subst q; exact h1 rfl
          · exact ht i) hj (by rw [hn]; exact Eq.mp Nat.blt_eq he) (by simp [look_cons])
    by_cases hbw : b = want
    · rw [if_pos (by simp [Region.wanted, hg, hy, hbw])]
      intro Q
      refine Oper.wpIn_mono ?_ (h rfl hbw ρ I w a hc ht Q)
      rintro a' w' ⟨u, y, ρ', I', H', ha, ⟨rfl, rfl⟩, hx, hc', ev⟩
      exact ⟨u, _, ρ', I', _, ha, ⟨rfl, rfl⟩, .cond (fun _ => hx) (fun hf => by simp [hbw] at hf), hc', ev⟩
    · rw [if_neg (by simp [Region.wanted, hg, hy, hbw])]
      exact ⟨rfl, .cond (fun hb => (hbw (by simpa using hb)).elim) (fun _ => rfl)⟩
theorem GStep.none {j e : Nat} {want : Bool} (hg : o.guard = some (j, want)) (hj : (ops[j]?).bind (·.dst) = some e) (hb : look T e = .v undef) : GStep P ops n o T H (.v undef) H := by
  intro ρ I w a hc ht hn
  rw [if_neg (by simp [Region.wanted, hg, yields_none ht hj hb])]
  exact ⟨rfl, .v _⟩
theorem GStep.may {j e : Nat} {want b : Bool} (hg : o.guard = some (j, want)) (hj : (ops[j]?).bind (·.dst) = some e) (he : Nat.blt e n = true) (hb : look T e = .v (.bool b)) (h : b = want → AStepD P o T H x H) : GStep P ops n o T H (.cond (b == want) x) H := by
  intro ρ I w a hc ht hn
  have hy := yields ht hj (by rw [hn]; exact Eq.mp Nat.blt_eq he) hb
  by_cases hbw : b = want
  · rw [if_pos (by simp [Region.wanted, hg, hy, hbw])]
    intro Q
    refine Oper.wpIn_mono ?_ (h hbw ρ I w a hc ht Q)
    rintro a' w' ⟨u, y, ρ', I', H', ha, ⟨rfl, rfl⟩, hx, hc', ev⟩
    exact ⟨u, _, ρ', I', _, ha, ⟨rfl, rfl⟩, .cond (fun _ => hx) (fun hf => by simp [hbw] at hf), hc', ev⟩
  · rw [if_neg (by simp [Region.wanted, hg, hy, hbw])]
    exact ⟨rfl, .cond (fun hb => (hbw (by simpa using hb)).elim) (fun _ => rfl)⟩
end

def ancStep (acc : List (List Nat)) (o : Oper) : List Nat :=
  (o.after.toList.flatMap fun e => if Region.binds .any e then e.on :: acc.getD e.on [] else []).eraseDups
def ancL : List Oper → List (List Nat) → List (List Nat)
  | [], acc => acc
  | o :: os, acc => ancL os (acc ++ [ancStep acc o])

theorem ancL_spec : ∀ (os : List Oper) (acc : List (List Nat)), (∀ i, i < acc.length → (ancL os acc)[i]? = acc[i]?) ∧
    ∀ (i : Nat) o, os[i]? = some o → ∀ j ∈ (ancL os acc).getD (acc.length + i) [], ∃ e ∈ o.after.toList, Region.binds .any e = true ∧ (e.on = j ∨ j ∈ (ancL os acc).getD e.on [])
  | [], acc => ⟨fun i _ => rfl, fun i o h => by simp at h⟩
  | o :: os, acc => by
    obtain ⟨h1, h2⟩ := ancL_spec os (acc ++ [ancStep acc o])
    have h3 : ∀ i, i < acc.length → (ancL os (acc ++ [ancStep acc o]))[i]? = acc[i]? := fun i hi => by
      rw [h1 i (by simp; omega), List.getElem?_append_left hi]
    refine ⟨fun i hi => h3 i hi, fun i o' ho j hj => ?_⟩
    simp only [ancL] at hj ⊢
    match i, ho with
    | 0, ho =>
      simp only [List.getElem?_cons_zero, Option.some.injEq] at ho
      subst ho
      rw [List.getD_eq_getElem?_getD, Nat.add_zero, h1 acc.length (by simp), List.getElem?_append_right (Nat.le_refl _)] at hj
      simp only [Nat.sub_self, List.getElem?_cons_zero, Option.getD_some, ancStep, List.mem_eraseDups, List.mem_flatMap] at hj
      obtain ⟨e, he, hj⟩ := hj
      split at hj
      · rename_i hbd
        refine ⟨e, he, hbd, ?_⟩
        rcases List.mem_cons.1 hj with rfl | hj
        · exact .inl rfl
        · right
          by_cases hlt : e.on < acc.length
          · rw [List.getD_eq_getElem?_getD] at hj ⊢
            rw [h3 _ hlt]; exact hj
          · rw [List.getD_eq_getElem?_getD, List.getElem?_eq_none (by omega)] at hj; simp at hj
      · cases hj
    | i + 1, ho =>
      have := h2 i o' (by simpa using ho) j
      rw [show (acc ++ [ancStep acc o]).length + i = acc.length + (i + 1) by simp; omega] at this
      exact this hj

def anc (ops : Array Oper) (i : Nat) : List Nat := (ancL ops.toList []).getD i []
theorem anc_spec {ops : Array Oper} {i : Nat} {o : Oper} (ho : ops[i]? = some o) {j : Nat} (hj : j ∈ anc ops i) : ∃ e ∈ o.after.toList, Region.binds .any e = true ∧ (e.on = j ∨ j ∈ anc ops e.on) := by
  have := (ancL_spec ops.toList []).2 i o (by simpa using ho) j
  simpa [anc] using this (by simpa [anc] using hj)

def frameAt (T : Fr) : List Oper → List AV → Fr
  | [], _ => T
  | _, [] => T
  | o :: os, v :: vs => frameAt (putA T o.dst v) os vs

def restr (L : List Nat) (T : Fr) : Fr := L.map fun s => (s, look T s)

theorem look_restr {L : List Nat} {T : Fr} (s : Nat) : look (restr L T) s = if s ∈ L then look T s else .any := by
  induction L with
  | nil => simp [restr, look]
  | cons a r ih =>
    simp only [restr, List.map_cons, look_cons]
    by_cases h : s = a
    · subst h; simp
    · rw [if_neg h]
      have : look (List.map (fun s => (s, look T s)) r) s = look (restr r T) s := rfl
      rw [this, ih]
      simp [h]

theorem look_frameAt (T : Fr) (s : Nat) : ∀ (os : List Oper) (vs : List AV), vs.length = os.length →
    ((∀ (i : Nat) o, os[i]? = some o → o.dst ≠ some s) ∧ look (frameAt T os vs) s = look T s) ∨
    ∃ (i : Nat) (o : Oper), os[i]? = some o ∧ o.dst = some s ∧ (∀ (j : Nat) o', i < j → os[j]? = some o' → o'.dst ≠ some s) ∧ look (frameAt T os vs) s = vs.getD i .any
  | [], vs, _ => .inl ⟨fun i o h => by simp at h, by simp [frameAt]⟩
  | o :: os, [], h => by simp at h
  | o :: os, v :: vs, h => by
    simp only [frameAt]
    rcases look_frameAt (putA T o.dst v) s os vs (by simpa using h) with ⟨h1, h2⟩ | ⟨i, o', h1, h2, h3, h4⟩
    · by_cases hd : o.dst = some s
      · refine .inr ⟨0, o, rfl, hd, fun j o' hj ho' => ?_, ?_⟩
        · obtain ⟨q, rfl⟩ : ∃ q, j = q + 1 := ⟨j - 1, by omega⟩
          exact h1 q o' (by simpa using ho')
        · rw [h2, hd]
          simp [putA, look_cons]
      · refine .inl ⟨fun i o' ho' => ?_, ?_⟩
        · match i, ho' with
          | 0, ho' => simp only [List.getElem?_cons_zero, Option.some.injEq] at ho'; subst ho'; exact hd
          | i + 1, ho' => exact h1 i o' (by simpa using ho')
        · rw [h2]
          cases hdd : o.dst with
          | none => rfl
          | some d =>
            simp only [putA, look_cons]
            rw [if_neg]
            rintro rfl
            exact hd hdd
    · refine .inr ⟨i + 1, o', by simpa using h1, h2, fun j o'' hj ho'' => ?_, by simpa using h4⟩
      obtain ⟨q, rfl⟩ : ∃ q, j = q + 1 := ⟨j - 1, by omega⟩
      exact h3 q o'' (by omega) (by simpa using ho'')

def pairB (ops : Array Oper) (i : Nat) (o : Oper) (m : Nat) : Bool :=
  match (ops[m]?).bind (·.dst) with
  | none => true
  | some d => (!(o.looksAt ops).contains d && o.dst != some d) || m == i || (Nat.blt m i && (anc ops i).contains m) || (Nat.blt i m && (anc ops m).contains i)
def opB (ops : Array Oper) (n i : Nat) : Bool :=
  match ops[i]? with
  | none => false
  | some o => (o.after.toList.all fun e => !Region.binds .any e || Nat.blt e.on i) && dstB o n && (List.range ops.size).all fun m => pairB ops i o m
def chainB (ops : Array Oper) : List Nat → Bool
  | a :: b :: r => (anc ops b).contains a && chainB ops (b :: r)
  | _ => true
def drawB (ops : Array Oper) (n : Nat) (effs : List Nat) : Bool :=
  ((List.range ops.size).all fun i => opB ops n i) && chainB ops effs && effs.all fun e => Nat.blt e ops.size
def mayB (ops : Array Oper) (effs : List Nat) (i k : Nat) : Bool :=
  effs.zipIdx.all fun (e, j) => (!(anc ops i).contains e || Nat.blt j k) && (!(anc ops e).contains i || Nat.ble k j)
def coverB (ops : Array Oper) (effs : List Nat) (obs : List (Nat × Nat)) : Bool :=
  (List.range ops.size).all fun i => (List.range (effs.length + 1)).all fun k =>
    (match effs.idxOf? i with | some j => k != j | none => !mayB ops effs i k) || obs.contains (i, k)

def AllP {α : Type} (f : α → Prop) : List α → Prop
  | [] => True
  | [x] => f x
  | x :: y :: r => f x ∧ AllP f (y :: r)
theorem AllP.of_mem {α : Type} {f : α → Prop} : ∀ {l : List α}, AllP f l → ∀ x ∈ l, f x
  | [], _, x, hx => by cases hx
  | [a], h, x, hx => by simp at hx; subst hx; exact h
  | a :: b :: r, h, x, hx => by
    rcases List.mem_cons.1 hx with rfl | hx
    · exact h.1
    · exact AllP.of_mem h.2 x hx

def Ob (P : Program) (ops : Array Oper) (n : Nat) (T : Fr) (vs : List AV) (effs : List Nat) (hs : List AHeap) (p : Nat × Nat) : Prop :=
  match ops[p.1]? with
  | none => True
  | some o => GStep P ops n o (restr (o.looksAt ops) (frameAt T (ops.toList.take p.1) vs)) (hs.getD p.2 AHeap.empty) (vs.getD p.1 .any) (hs.getD (bif effs.contains p.1 then p.2 + 1 else p.2) AHeap.empty)

section
variable {P : Program} {ops : Array Oper} {n : Nat} {T : Fr} {H : AHeap} {vs : List AV} {effs : List Nat} {hs : List AHeap}

def LD (listed : Array Bool) (i : Nat) : Prop := listed.getD i false = true

structure Mid (ops : Array Oper) (T : Fr) (vs : List AV) (effs : List Nat) (hs : List AHeap) (listed : Array Bool) (k : Nat) (ρ : Rho) (I : Imm) (a : Act) (w : World) : Prop where
  size : listed.size = ops.size
  closed : ∀ (i : Nat) o, LD listed i → ops[i]? = some o → ∀ e ∈ o.after, Region.binds .any e = true → LD listed e.on
  pre : ∀ (j : Nat) e, effs[j]? = some e → (LD listed e ↔ j < k)
  kle : k ≤ effs.length
  conc : Conc ρ I w (hs.getD k AHeap.empty)
  written : ∀ (s i : Nat) o, LD listed i → ops[i]? = some o → o.dst = some s → (∀ (i' : Nat) o', LD listed i' → ops[i']? = some o' → o'.dst = some s → i' ≤ i) → CV ρ I (vs.getD i .any) (a.tmps.getD s undef)
  kept : ∀ s, (∀ (i : Nat) o, LD listed i → ops[i]? = some o → o.dst ≠ some s) → CV ρ I (look T s) (a.tmps.getD s undef)

theorem Mid.up {listed : Array Bool} {k : Nat} {ρ : Rho} {I : Imm} {a : Act} {w : World} (m : Mid ops T vs effs hs listed k ρ I a w) (hfw : ∀ (i : Nat) o, ops[i]? = some o → ∀ e ∈ o.after, Region.binds .any e = true → e.on < i) :
    ∀ (i : Nat) o, ops[i]? = some o → (∀ e ∈ o.after, Region.binds .any e = true → LD listed e.on) → ∀ j ∈ anc ops i, LD listed j := by
  intro i
  induction i using Nat.strongRecOn with
  | _ i ih =>
    intro o ho hp j hj
    obtain ⟨e, he, hb, h⟩ := anc_spec ho hj
    have he' : e ∈ o.after := by simpa using he
    have hl := hp e he' hb
    rcases h with rfl | h
    · exact hl
    · have hlt := hfw i o ho e he' hb
      have hos : e.on < ops.size := by have := (Array.getElem?_eq_some_iff.1 ho).1; omega
      exact ih e.on hlt ops[e.on] (by simp [hos]) (m.closed e.on _ hl (by simp [hos])) j h

theorem LD_set {listed : Array Bool} {i j : Nat} (hi : i < listed.size) : LD (listed.setIfInBounds i true) j ↔ j = i ∨ LD listed j := by
  unfold LD
  rw [Array.getD_eq_getD_getElem?, Array.getElem?_setIfInBounds, Array.getD_eq_getD_getElem?]
  by_cases h : i = j
  · subst h; simp [hi]
  · rw [if_neg h]
    constructor
    · exact .inr
    · rintro (rfl | h')
      · exact (h rfl).elim
      · exact h'

structure FitsP (ops : Array Oper) (n : Nat) : Prop where
  fw : ∀ (i : Nat) o, ops[i]? = some o → ∀ e ∈ o.after, Region.binds .any e = true → e.on < i
  dst : ∀ (i : Nat) o, ops[i]? = some o → dstB o n = true
  pair : ∀ (i : Nat) o, ops[i]? = some o → ∀ (m d : Nat) om, ops[m]? = some om → om.dst = some d → (d ∈ o.looksAt ops ∨ o.dst = some d) → m = i ∨ (m < i ∧ m ∈ anc ops i) ∨ (i < m ∧ i ∈ anc ops m)
structure Fits (ops : Array Oper) (n : Nat) (effs : List Nat) : Prop extends FitsP ops n where
  chain : ∀ (j : Nat) a b, effs[j]? = some a → effs[j + 1]? = some b → a ∈ anc ops b
  lt : ∀ e ∈ effs, e < ops.size

theorem chainB_spec : ∀ {effs : List Nat}, chainB ops effs = true → ∀ (j : Nat) a b, effs[j]? = some a → effs[j + 1]? = some b → a ∈ anc ops b
  | [], _, j, a, b, h, _ => by simp at h
  | [x], _, j, a, b, _, h => by simp at h
  | x :: y :: r, h, j, a, b, h1, h2 => by
    simp only [chainB, Bool.and_eq_true, List.contains_iff_mem] at h
    match j, h1, h2 with
    | 0, h1, h2 => simp at h1 h2; subst h1; subst h2; exact h.1
    | j + 1, h1, h2 => exact chainB_spec h.2 j a b (by simpa using h1) (by simpa using h2)

theorem drawB_spec (h : drawB ops n effs = true) : Fits ops n effs := by
  simp only [drawB, Bool.and_eq_true, List.all_eq_true, List.mem_range] at h
  obtain ⟨⟨h1, h2⟩, h3⟩ := h
  have hop : ∀ (i : Nat) o, ops[i]? = some o → ((o.after.toList.all fun e => !Region.binds .any e || Nat.blt e.on i) && dstB o n && (List.range ops.size).all fun m => pairB ops i o m) = true := by
    intro i o ho
    have := h1 i (Array.getElem?_eq_some_iff.1 ho).1
    simpa [opB, ho] using this
  refine ⟨⟨fun i o ho e he hb => ?_, fun i o ho => ?_, fun i o ho m d om hm hd hl => ?_⟩, chainB_spec h2, fun e he => Eq.mp Nat.blt_eq (h3 e he)⟩
  · have := hop i o ho
    simp only [Bool.and_eq_true, List.all_eq_true, Bool.or_eq_true, Bool.not_eq_true'] at this
    rcases this.1.1 e (by simpa using he) with h | h
    · rw [hb] at h; cases h
    · exact Eq.mp Nat.blt_eq h
  · have := hop i o ho
    simp only [Bool.and_eq_true] at this
    exact this.1.2
  · have := hop i o ho
    simp only [Bool.and_eq_true, List.all_eq_true, List.mem_range] at this
    have hp := this.2 m (Array.getElem?_eq_some_iff.1 hm).1
    simp only [pairB, hm, Option.bind_some, hd, Bool.or_eq_true, Bool.and_eq_true, Bool.not_eq_true', List.contains_iff_mem, beq_iff_eq] at hp
    rcases hp with ((hp | hp) | hp) | hp
    · exfalso
      rcases hl with hl | hl
      · have := hp.1; rw [← Bool.not_eq_true, List.contains_iff_mem] at this; exact this hl
      · have := hp.2; rw [hl] at this; simp at this
    · exact .inl hp
    · exact .inr (.inl ⟨Eq.mp Nat.blt_eq hp.1, hp.2⟩)
    · exact .inr (.inr ⟨Eq.mp Nat.blt_eq hp.1, hp.2⟩)

theorem Mid.slot {listed : Array Bool} {k : Nat} {ρ : Rho} {I : Imm} {a : Act} {w : World} (m : Mid ops T vs effs hs listed k ρ I a w) (F : FitsP ops n) (hvs : vs.length = ops.size) {i : Nat} {o : Oper} (ho : ops[i]? = some o)
    (hp : ∀ e ∈ o.after, Region.binds .any e = true → LD listed e.on) (hni : ¬ LD listed i) : TV ρ I (restr (o.looksAt ops) (frameAt T (ops.toList.take i) vs)) a := by
  intro s
  rw [look_restr]
  split
  · rename_i hs
    have hanc := m.up F.fw i o ho hp
    have hil := (Array.getElem?_eq_some_iff.1 ho).1
    have hother : ∀ (i' : Nat) o', LD listed i' → ops[i']? = some o' → o'.dst = some s → i' < i := by
      intro i' o' hl ho' hd
      rcases F.pair i o ho i' s o' ho' hd (.inl hs) with h | h | h
      · subst h; exact (hni hl).elim
      · exact h.1
      · exfalso
        refine hni (m.up F.fw i' o' ho' (m.closed i' o' hl ho') i h.2)
    have hfr : frameAt T (ops.toList.take i) vs = frameAt T (ops.toList.take i) (vs.take i) := by
      have : ∀ (os : List Oper) (vs : List AV) (T : Fr), frameAt T os vs = frameAt T os (vs.take os.length) := by
        intro os
        induction os with
        | nil => intro vs T; simp [frameAt]
        | cons o os ih =>
          intro vs T
          cases vs with
          | nil => simp [frameAt]
          | cons v vs => simp only [List.length_cons, List.take_succ_cons, frameAt]; exact ih vs _
      rw [this, List.length_take, Array.length_toList, Nat.min_eq_left (by omega)]
    rw [hfr]
    rcases look_frameAt T s (ops.toList.take i) (vs.take i) (by simp [hvs]) with ⟨h1, h2⟩ | ⟨q, oq, h1, h2, h3, h4⟩
    · rw [h2]
      refine m.kept s fun i' o' hl ho' hd => ?_
      have hlt := hother i' o' hl ho' hd
      refine h1 i' o' ?_ hd
      rw [List.getElem?_take, if_pos hlt]; simpa using ho'
    · rw [h4]
      have hqi : q < i := by
        have := (List.getElem?_eq_some_iff.1 h1).1
        simp at this; omega
      have hoq : ops[q]? = some oq := by rw [List.getElem?_take, if_pos hqi] at h1; simpa using h1
      have hlq : LD listed q := by
        rcases F.pair i o ho q s oq hoq h2 (.inl hs) with h | h | h
        · omega
        · exact hanc q h.2
        · omega
      have := m.written s q oq hlq hoq h2 fun i' o' hl ho' hd => by
        have hlt := hother i' o' hl ho' hd
        refine Nat.le_of_not_lt fun hlt2 => h3 i' o' hlt2 ?_ hd
        rw [List.getElem?_take, if_pos hlt]; simpa using ho'
      rw [List.getD_eq_getElem?_getD, List.getElem?_take, if_pos hqi, ← List.getD_eq_getElem?_getD]
      exact this
  · exact .any _

def Need (P : Program) (ops : Array Oper) (n : Nat) (T : Fr) (vs : List AV) (effs : List Nat) (hs : List AHeap) : Prop :=
  ∀ (i : Nat) o k, ops[i]? = some o → k ≤ effs.length → (∀ (j : Nat), effs[j]? = some i → k = j) → (∀ (j : Nat) e, effs[j]? = some e → e ∈ anc ops i → j < k) → (∀ (j : Nat) e, effs[j]? = some e → i ∈ anc ops e → k ≤ j) →
    GStep P ops n o (restr (o.looksAt ops) (frameAt T (ops.toList.take i) vs)) (hs.getD k AHeap.empty) (vs.getD i .any) (hs.getD (bif effs.contains i then k + 1 else k) AHeap.empty)

theorem Fits.nodup (F : Fits ops n effs) : ∀ (j j' : Nat) e, effs[j]? = some e → effs[j']? = some e → j = j' := by
  have hlt : ∀ i j, j ∈ anc ops i → j < i := by
    intro i
    induction i using Nat.strongRecOn with
    | _ i ih =>
      intro j hj
      cases ho : ops[i]? with
      | none =>
        have : anc ops i = [] := by
          have hsz : ops.toList.length ≤ i := by simpa using Array.getElem?_eq_none_iff.1 ho
          have hlen : ∀ (os : List Oper) acc, (ancL os acc).length = acc.length + os.length := by
            intro os
            induction os with
            | nil => intro acc; simp [ancL]
            | cons o os ih => intro acc; simp only [ancL, ih, List.length_append, List.length_cons, List.length_nil]; omega
          rw [anc, List.getD_eq_getElem?_getD, List.getElem?_eq_none (by rw [hlen]; simpa using hsz)]
          rfl
        rw [this] at hj; cases hj
      | some o =>
        obtain ⟨e, he, hb, h⟩ := anc_spec ho hj
        have := F.fw i o ho e (by simpa using he) hb
        rcases h with rfl | h
        · exact this
        · have := ih e.on this j h; omega
  have hstep : ∀ (d j : Nat) a b, effs[j]? = some a → effs[j + d + 1]? = some b → a < b := by
    intro d
    induction d with
    | zero => intro j a b h1 h2; exact hlt b a (F.chain j a b h1 h2)
    | succ d ih =>
      intro j a b h1 h2
      have hl : j + d + 1 < effs.length := by have := (List.getElem?_eq_some_iff.1 h2).1; omega
      have := ih j a effs[j + d + 1] h1 (by simp [hl])
      have := hlt b _ (F.chain (j + d + 1) effs[j + d + 1] b (by simp [hl]) (by rw [← h2]; congr 1))
      omega
  intro j j' e h1 h2
  rcases Nat.lt_trichotomy j j' with h | h | h
  · have := hstep (j' - j - 1) j e e h1 (by rw [← h2]; congr 1; omega); omega
  · exact h
  · have := hstep (j - j' - 1) j' e e h2 (by rw [← h1]; congr 1; omega); omega

theorem Mid.runP {listed : Array Bool} {k : Nat} {ρ : Rho} {I : Imm} {a : Act} {w : World} (m : Mid ops T vs effs hs listed k ρ I a w) (F : FitsP ops n) (nd : ∀ (j j' : Nat) e, effs[j]? = some e → effs[j']? = some e → j = j') (lt : ∀ e ∈ effs, e < ops.size) (N : Need P ops n T vs effs hs) (hvs : vs.length = ops.size) {i : Nat} {o : Oper} (ho : ops[i]? = some o)
    (hp : ∀ e ∈ o.after, Region.binds .any e = true → LD listed e.on) (hni : ¬ LD listed i) (h1 : ∀ (j : Nat), effs[j]? = some i → k = j) (hn : a.tmps.size = n) (hd : DOK md ρ w (hs.getD k AHeap.empty) a.defers) {Q : Exit → Act → World → Prop} {ρ0 : Rho} {I0 : Imm} {w0 : World} {H0 : AHeap} (ev : Ev ρ0 I0 w0 H0 ρ I w (hs.getD k AHeap.empty)) :
    wpOpIn md.F 0 P ops Q i (fun a' w' => ∃ k' ρ' I', Mid ops T vs effs hs (listed.setIfInBounds i true) k' ρ' I' a' w' ∧ a'.tmps.size = n ∧ DOK md ρ' w' (hs.getD k' AHeap.empty) a'.defers ∧ Ev ρ0 I0 w0 H0 ρ' I' w' (hs.getD k' AHeap.empty)) a w := by
  have hil : i < listed.size := by rw [m.size]; exact (Array.getElem?_eq_some_iff.1 ho).1
  have hanc := m.up F.fw i o ho hp
  have h2 : ∀ (j : Nat) e, effs[j]? = some e → e ∈ anc ops i → j < k := fun j e hj he => (m.pre j e hj).1 (hanc e he)
  have h3 : ∀ (j : Nat) e, effs[j]? = some e → i ∈ anc ops e → k ≤ j := by
    intro j e hj he
    refine Nat.le_of_not_lt fun hlt => hni ?_
    have hle := (m.pre j e hj).2 hlt
    have hel := lt e (List.mem_of_getElem? hj)
    exact m.up F.fw e ops[e] (by simp [hel]) (m.closed e _ hle (by simp [hel])) i he
  have hg := N i o k ho m.kle h1 h2 h3 ρ I w a m.conc (m.slot F hvs ho hp hni) hn
  have next : ∀ (u : Value) (ρ' : Rho) (I' : Imm) (w' : World), CV ρ' I' (vs.getD i .any) u → Conc ρ' I' w' (hs.getD (bif effs.contains i then k + 1 else k) AHeap.empty) → Ev ρ I w (hs.getD k AHeap.empty) ρ' I' w' (hs.getD (bif effs.contains i then k + 1 else k) AHeap.empty) →
      ∃ k' ρ' I', Mid ops T vs effs hs (listed.setIfInBounds i true) k' ρ' I' (a.put o.dst u) w' ∧ (a.put o.dst u).tmps.size = n ∧ DOK md ρ' w' (hs.getD k' AHeap.empty) (a.put o.dst u).defers ∧ Ev ρ0 I0 w0 H0 ρ' I' w' (hs.getD k' AHeap.empty) := by
    intro u ρ' I' w' hx hc' ev'
    refine ⟨bif effs.contains i then k + 1 else k, ρ', I', ⟨by simp [m.size], ?_, ?_, ?_, hc', ?_, ?_⟩, by rw [put_size, hn], by rw [put_defers]; exact hd.ev ev', ev.trans ev'⟩
    · intro i' o' hl ho' e he hb
      rw [LD_set hil] at hl ⊢
      rcases hl with rfl | hl
      · rw [ho] at ho'; cases ho'; exact .inr (hp e he hb)
      · exact .inr (m.closed i' o' hl ho' e he hb)
    · intro j e hj
      rw [LD_set hil]
      by_cases hie : i ∈ effs
      · obtain ⟨q, hq⟩ := List.mem_iff_getElem?.1 hie
        have hkq := h1 q hq
        rw [show effs.contains i = true from List.contains_iff_mem.2 hie]
        simp only [cond_true]
        constructor
        · rintro (rfl | h)
          · have := nd j q e hj hq; omega
          · have := (m.pre j e hj).1 h; omega
        · intro h
          by_cases hjk : j = k
          · left; subst hjk; rw [hkq, hq] at hj; cases hj; rfl
          · exact .inr ((m.pre j e hj).2 (by omega))
      · rw [show effs.contains i = false from by rw [← Bool.not_eq_true, List.contains_iff_mem]; exact hie]
        simp only [cond_false]
        rw [← m.pre j e hj]
        constructor
        · rintro (rfl | h)
          · exact (hie (List.mem_of_getElem? hj)).elim
          · exact h
        · exact .inr
    · by_cases hie : i ∈ effs
      · obtain ⟨q, hq⟩ := List.mem_iff_getElem?.1 hie
        have hkq := h1 q hq
        have := (List.getElem?_eq_some_iff.1 hq).1
        rw [show effs.contains i = true from List.contains_iff_mem.2 hie]
        simp only [cond_true]; omega
      · rw [show effs.contains i = false from by rw [← Bool.not_eq_true, List.contains_iff_mem]; exact hie]
        simp only [cond_false]; exact m.kle
    · -- written
      intro s i' o' hl ho' hd' hmax
      rw [LD_set hil] at hl
      have hmax' : ∀ (q : Nat) oq, LD listed q → ops[q]? = some oq → oq.dst = some s → q ≤ i' := fun q oq hq hoq hdq => hmax q oq ((LD_set hil).2 (.inr hq)) hoq hdq
      by_cases hds : o.dst = some s
      · -- i writes s: it is the last
        have hii : i' = i := by
          have h1 := hmax i o ((LD_set hil).2 (.inl rfl)) ho hds
          rcases hl with rfl | hl
          · rfl
          · rcases F.pair i o ho i' s o' ho' hd' (.inr hds) with h | h | h
            · exact h
            · omega
            · exfalso
              exact hni (m.up F.fw i' o' ho' (m.closed i' o' hl ho') i h.2)
        subst hii
        have hsz : s < a.tmps.size := by rw [hn]; exact dstB_spec (F.dst i' o ho) s hds
        rw [hds]
        simp only [Act.put]
        rw [Array.getD_eq_getD_getElem?, Array.getElem?_setIfInBounds]
        simp [hsz]
        simpa [List.getD_eq_getElem?_getD] using hx
      · have hold : (a.put o.dst u).tmps.getD s undef = a.tmps.getD s undef := by
          cases hdd : o.dst with
          | none => rfl
          | some d =>
            simp only [Act.put]
            rw [Array.getD_eq_getD_getElem?, Array.getElem?_setIfInBounds, if_neg, ← Array.getD_eq_getD_getElem?]
            rintro rfl
            exact hds hdd
        rw [hold]
        rcases hl with rfl | hl
        · rw [ho] at ho'; cases ho'; exact (hds hd').elim
        · exact ev'.cv (m.written s i' o' hl ho' hd' hmax')
    · -- kept
      intro s hno
      have hds : o.dst ≠ some s := hno i o ((LD_set hil).2 (.inl rfl)) ho
      have hold : (a.put o.dst u).tmps.getD s undef = a.tmps.getD s undef := by
        cases hdd : o.dst with
        | none => rfl
        | some d =>
          simp only [Act.put]
          rw [Array.getD_eq_getD_getElem?, Array.getElem?_setIfInBounds, if_neg, ← Array.getD_eq_getD_getElem?]
          rintro rfl
          exact hds hdd
      rw [hold]
      exact ev'.cv (m.kept s fun i' o' hl ho' => hno i' o' ((LD_set hil).2 (.inr hl)) ho')
  unfold wpOpIn
  rw [ho]
  simp only
  by_cases hw : Region.wanted o (yielded ops a.tmps) = true
  · rw [if_pos hw] at hg ⊢
    refine Oper.wpIn_mono ?_ (AStep.at hg Q)
    rintro a' w' ⟨u, y, ρ', I', H', rfl, ⟨rfl, rfl⟩, hx, hc', ev'⟩
    exact next u ρ' I' w' hx hc' ev'
  · rw [if_neg hw] at hg ⊢
    obtain ⟨hH, hx⟩ := hg
    refine ⟨fun _ _ => trivial, next undef ρ I w hx ?_ ?_⟩
    · rw [hH]; exact m.conc
    · rw [hH]; exact .refl ρ I w _

theorem Mid.run {listed : Array Bool} {k : Nat} {ρ : Rho} {I : Imm} {a : Act} {w : World} (m : Mid ops T vs effs hs listed k ρ I a w) (F : Fits ops n effs) (N : Need P ops n T vs effs hs) (hvs : vs.length = ops.size) {i : Nat} {o : Oper} (ho : ops[i]? = some o)
    (hp : ∀ e ∈ o.after, Region.binds .any e = true → LD listed e.on) (hni : ¬ LD listed i) (hn : a.tmps.size = n) (hd : DOK md ρ w (hs.getD k AHeap.empty) a.defers) {Q : Exit → Act → World → Prop} {ρ0 : Rho} {I0 : Imm} {w0 : World} {H0 : AHeap} (ev : Ev ρ0 I0 w0 H0 ρ I w (hs.getD k AHeap.empty)) :
    wpOpIn md.F 0 P ops Q i (fun a' w' => ∃ k' ρ' I', Mid ops T vs effs hs (listed.setIfInBounds i true) k' ρ' I' a' w' ∧ a'.tmps.size = n ∧ DOK md ρ' w' (hs.getD k' AHeap.empty) a'.defers ∧ Ev ρ0 I0 w0 H0 ρ' I' w' (hs.getD k' AHeap.empty)) a w := by
  have hanc := m.up F.fw i o ho hp
  have h1 : ∀ (j : Nat), effs[j]? = some i → k = j := by
    intro j hj
    have hnot : ¬ j < k := fun h => hni ((m.pre j i hj).2 h)
    rcases Nat.eq_zero_or_pos j with rfl | hpos
    · omega
    · obtain ⟨q, rfl⟩ : ∃ q, j = q + 1 := ⟨j - 1, by omega⟩
      have hq : q < effs.length := by have := (List.getElem?_eq_some_iff.1 hj).1; omega
      have := (m.pre q effs[q] (by simp [hq])).1 (hanc _ (F.chain q effs[q] i (by simp [hq]) hj))
      omega
  exact m.runP F.toFitsP F.nodup F.lt N hvs ho hp hni h1 hn hd ev

theorem Mid.any (F : Fits ops n effs) (N : Need P ops n T vs effs hs) (hvs : vs.length = ops.size) {Q : APost} {ρ0 : Rho} {I0 : Imm} {w0 : World} {H0 : AHeap}
    (hQ : Q .normal (frameAt T ops.toList vs) (hs.getD effs.length AHeap.empty)) : ∀ (fuel : Nat) (listed : Array Bool) (k : Nat) (ρ : Rho) (I : Imm) (a : Act) (w : World), Mid ops T vs effs hs listed k ρ I a w → ((List.range ops.size).filter fun i => !listed.getD i false).length ≤ fuel →
      a.tmps.size = n → DOK md ρ w (hs.getD k AHeap.empty) a.defers → Ev ρ0 I0 w0 H0 ρ I w (hs.getD k AHeap.empty) → wpAnyIn md.F 0 P .any ops (Fin md Q ρ0 I0 w0 H0 n) fuel listed a w := by
  have fin : ∀ (listed : Array Bool) (k : Nat) (ρ : Rho) (I : Imm) (a : Act) (w : World), Mid ops T vs effs hs listed k ρ I a w → (∀ i, i < ops.size → LD listed i) → a.tmps.size = n → DOK md ρ w (hs.getD k AHeap.empty) a.defers → Ev ρ0 I0 w0 H0 ρ I w (hs.getD k AHeap.empty) → Fin md Q ρ0 I0 w0 H0 n .normal a w := by
    intro listed k ρ I a w m hall hn hd ev
    have hk : k = effs.length := by
      refine Nat.le_antisymm m.kle (Nat.le_of_not_lt fun h => ?_)
      have := (m.pre k effs[k] (by simp [h])).1 (hall _ (F.lt _ (List.getElem_mem h)))
      omega
    subst hk
    refine ⟨_, ρ, I, _, hQ, m.conc, fun s => ?_, hn, hd, ev⟩
    rcases look_frameAt T s ops.toList vs (by simp [hvs]) with ⟨h1, h2⟩ | ⟨q, oq, h1, h2, h3, h4⟩
    · rw [h2]; exact m.kept s fun i o _ ho => h1 i o (by simpa using ho)
    · rw [h4]
      have hoq : ops[q]? = some oq := by simpa using h1
      exact m.written s q oq (hall q (Array.getElem?_eq_some_iff.1 hoq).1) hoq h2 fun i' o' _ ho' hd' => Nat.le_of_not_lt fun hlt => h3 i' o' hlt (by simpa using ho') hd'
  have some_ready : ∀ (listed : Array Bool), listed.size = ops.size → (∃ i, i < ops.size ∧ ¬ LD listed i) → Region.ready .any ops listed ≠ [] := by
    intro listed hsz ⟨i, hi, hni⟩
    induction i using Nat.strongRecOn with
    | _ i ih =>
      by_cases hp : ∀ e ∈ ops[i].after, Region.binds .any e = true → LD listed e.on
      · have : i ∈ Region.ready .any ops listed := by
          rw [mem_ready]
          refine ⟨?_, ops[i], by simp [hi], hp⟩
          unfold LD at hni
          rw [Array.getD_eq_getD_getElem?, Array.getElem?_eq_getElem (by omega)] at hni ⊢
          simpa using hni
        intro h
        rw [h] at this; cases this
      · obtain ⟨e, he⟩ := Classical.not_forall.1 hp
        obtain ⟨he, h⟩ := Classical.not_imp.1 he
        obtain ⟨hb, h⟩ := Classical.not_imp.1 h
        have hlt := F.fw i ops[i] (by simp [hi]) e he hb
        exact ih e.on hlt (by omega) h
  have count0 : ∀ (listed : Array Bool), ((List.range ops.size).filter fun i => !listed.getD i false).length ≤ 0 → ∀ i, i < ops.size → LD listed i := by
    intro listed h i hi
    have : (List.range ops.size).filter (fun i => !listed.getD i false) = [] := List.eq_nil_of_length_eq_zero (by omega)
    rw [List.filter_eq_nil_iff] at this
    have := this i (List.mem_range.2 hi)
    unfold LD
    simpa using this
  intro fuel
  induction fuel with
  | zero =>
    intro listed k ρ I a w m hc hn hd ev
    have hall := count0 listed hc
    refine ⟨?_, fin listed k ρ I a w m hall hn hd ev⟩
    refine List.eq_nil_iff_forall_not_mem.2 fun i hi => ?_
    obtain ⟨h0, o, ho, _⟩ := mem_ready.1 hi
    have hlt := (Array.getElem?_eq_some_iff.1 ho).1
    have := hall i hlt
    unfold LD at this
    have hsz := m.size
    rw [Array.getD_eq_getD_getElem?, Array.getElem?_eq_getElem (by omega)] at h0 this
    simp at h0 this
    rw [h0] at this; cases this
  | succ fuel ih =>
    intro listed k ρ I a w m hc hn hd ev
    refine ⟨fun h => ?_, fun i hi => ?_⟩
    · refine fin listed k ρ I a w m (fun i hi => ?_) hn hd ev
      refine Classical.byContradiction fun hni => ?_
      exact some_ready listed m.size ⟨i, hi, hni⟩ h
    · obtain ⟨h0, o, ho, hp⟩ := mem_ready.1 hi
      have hlt := (Array.getElem?_eq_some_iff.1 ho).1
      have hsz := m.size
      have hni : ¬ LD listed i := by
        unfold LD
        rw [Array.getD_eq_getD_getElem?, Array.getElem?_eq_getElem (by omega)] at h0 ⊢
        simp at h0 ⊢
        exact h0
      refine wpOpIn_mono ?_ (m.run F N hvs ho hp hni hn hd ev)
      rintro a' w' ⟨k', ρ', I', m', hn', hd', ev'⟩
      refine ih _ k' ρ' I' a' w' m' ?_ hn' hd' ev'
      have hfil : ((List.range ops.size).filter fun j => !(listed.setIfInBounds i true).getD j false).length < ((List.range ops.size).filter fun j => !listed.getD j false).length := by
        have hsub : ((List.range ops.size).filter fun j => !(listed.setIfInBounds i true).getD j false) = ((List.range ops.size).filter fun j => !listed.getD j false).filter fun j => j != i := by
          rw [List.filter_filter]
          refine List.filter_congr fun j hj => ?_
          have hj' := List.mem_range.1 hj
          have hset := LD_set (listed := listed) (i := i) (j := j) (by omega)
          unfold LD at hset
          cases h1 : (listed.setIfInBounds i true).getD j false <;> cases h2 : listed.getD j false <;> simp [h1, h2] at hset ⊢
          all_goals first | exact hset | (simpa using hset) | skip
        rw [hsub]
        refine List.length_filter_lt_length_iff_exists.2 ⟨i, ?_, by simp⟩
        rw [List.mem_filter]
        refine ⟨List.mem_range.2 hlt, ?_⟩
        unfold LD at hni
        simpa using hni
      omega

theorem idxOf_get {l : List Nat} {i j : Nat} (h : l.idxOf? i = some j) : l[j]? = some i := by
  induction l generalizing j with
  | nil => simp [List.idxOf?] at h
  | cons a r ih =>
    rw [List.idxOf?_cons] at h
    split at h
    · rename_i hb
      simp only [Option.some.injEq] at h
      subst h
      simpa using hb
    · cases hr : r.idxOf? i with
      | none => rw [hr] at h; simp at h
      | some q => rw [hr] at h; simp at h; subst h; simpa using ih hr

theorem AW.draw {id : Nat} {Q : APost} (hmix : P.follows .mixedOrders = true) (vs : List AV) (effs : List Nat) (hs : List AHeap) (obs : List (Nat × Nat)) (hb : drawB ops n effs = true) (hcov : coverB ops effs obs = true) (hvs : vs.length = ops.size) (h0 : hs.getD 0 AHeap.empty = H)
    (hob : AllP (Ob P ops n T vs effs hs) obs) (hQ : Q .normal (frameAt T ops.toList vs) (hs.getD effs.length AHeap.empty)) : AW md P (.region id ops true) Q T H n := by
  have F : Fits ops n effs := drawB_spec hb
  have N : Need P ops n T vs effs hs := by
    intro i o k ho hk h1 h2 h3
    have hil := (Array.getElem?_eq_some_iff.1 ho).1
    have hmem : (i, k) ∈ obs := by
      simp only [coverB, List.all_eq_true, List.mem_range] at hcov
      have := hcov i hil k (by omega)
      simp only [Bool.or_eq_true, List.contains_iff_mem] at this
      refine this.resolve_left fun hbad => ?_
      split at hbad
      · rename_i j hj
        have hj' : effs[j]? = some i := by
          exact idxOf_get hj
        have := h1 j hj'
        subst this
        simp at hbad
      · have : mayB ops effs i k = true := by
          simp only [mayB, List.all_eq_true]
          rintro ⟨e, j⟩ hej
          have hej' : effs[j]? = some e := by simpa using List.mem_zipIdx_iff_getElem?.1 hej
          simp only [Bool.and_eq_true, Bool.or_eq_true, Bool.not_eq_true']
          refine ⟨?_, ?_⟩
          · by_cases hm : e ∈ anc ops i
            · exact .inr (Eq.mpr Nat.blt_eq (h2 j e hej' hm))
            · left; rw [← Bool.not_eq_true, List.contains_iff_mem]; exact hm
          · by_cases hm : i ∈ anc ops e
            · exact .inr (Eq.mpr Nat.ble_eq (h3 j e hej' hm))
            · left; rw [← Bool.not_eq_true, List.contains_iff_mem]; exact hm
        rw [this] at hbad; cases hbad
    have := hob.of_mem (i, k) hmem
    simpa only [Ob, ho] using this
  intro ρ I w a hc ht hn hd
  have hno : ∀ i, ¬ LD (Array.replicate ops.size false) i := by
    intro i h
    unfold LD at h
    rw [Array.getD_eq_getD_getElem?, Array.getElem?_replicate] at h
    split at h <;> simp at h
  refine wpIn_region_any hmix (Mid.any F N hvs hQ ops.size _ 0 ρ I a _ ⟨by simp, fun i o h => (hno i h).elim, fun j e _ => ⟨fun h => (hno e h).elim, fun h => by omega⟩, Nat.zero_le _, by rw [h0]; exact hc.drew, fun s i o h => (hno i h).elim, fun s _ => ht s⟩ ?_ hn (by rw [h0]; exact hd.ev (Ev.drew ρ I w H)) ?_)
  · refine Nat.le_trans (List.length_filter_le _ _) ?_
    simp
  · rw [h0]; exact .drew ρ I w H
end
end Go.Ax
