/- The abstract layer, part 1: abstract values, the abstract heap, what it is for a world to bear them. No program is named here. -/
import Derived.WalkKit
import Derived.Orders
namespace Go.Ax

/-- A block that an abstract location stands for: its number, and how many cells it has. -/
structure Blk where
  b : Nat
  sz : Nat

/-- An abstract value. 'v x': just the value x. 'any': whatever. 'ptr l off': the address of cell off of location l.
'ip cs': the address of cells that never change. 'slc l off len cap k': a slice of which at least cap elements may be had; 'slx' of which just cap.
'sl l off len k': a slice over location l, from cell off on, len elements of k cells.
'vec n cs': a slice of n elements whose cells never change. 'map l': a map. 'cond b a': the value a if b holds, else none. 'yld l': the function that makes a round of the loop whose record lies at l. -/
inductive AV where
  | v (x : Value)
  | any
  | ptr (l off : Nat)
  | ip (cs : List AV)
  | sl (l off len k : Nat)
  | slc (l off len cap k : Nat)
  | slx (l off len cap k : Nat)
  | vec (n : Nat) (cs : List AV)
  | map (l : Nat)
  | func (fn : Fn) (caps : List AV)
  | agg (cs : List AV)
  | tup (cs : List AV)
  | iface (t : TypeId) (a : AV)
  | yld (l : Nat)
  | cond (b : Bool) (a : AV)

instance : Inhabited AV := ⟨.any⟩

abbrev Rho := Nat → Option Blk
abbrev Imm := Nat → Option (Array Value)

/-- A concrete value is what the abstract one says. -/
inductive CV (ρ : Rho) (I : Imm) : AV → Value → Prop where
  | v (x : Value) : CV ρ I (.v x) x
  | any (y : Value) : CV ρ I .any y
  | ptr {l off : Nat} {B : Blk} (h : ρ l = some B) : CV ρ I (.ptr l off) (.pointer (some ⟨B.b, off, none⟩))
  | ip {cs : List AV} {b off : Nat} {arr : Array Value} {vs : List Value} (h : I b = some arr) (hl : vs.length = cs.length)
      (hc : ∀ (i : Nat) u, vs[i]? = some u → arr[off + i]? = some u) (hv : ∀ (i : Nat) a u, cs[i]? = some a → vs[i]? = some u → CV ρ I a u) : CV ρ I (.ip cs) (.pointer (some ⟨b, off, none⟩))
  | sl {l off len k c : Nat} {B : Blk} (h : ρ l = some B) (hl : len ≤ c) (hm : c ≤ maxLen) (hs : off + c * k ≤ B.sz) : CV ρ I (.sl l off len k) (.slice (some ⟨B.b, off, none⟩) len c)
  | slc {l off len cap k c : Nat} {B : Blk} (h : ρ l = some B) (hl : len ≤ cap) (hc : cap ≤ c) (hm : c ≤ maxLen) (hs : off + c * k ≤ B.sz) : CV ρ I (.slc l off len cap k) (.slice (some ⟨B.b, off, none⟩) len c)
  | slx {l off len cap k : Nat} {B : Blk} (h : ρ l = some B) (hl : len ≤ cap) (hm : cap ≤ maxLen) (hs : off + cap * k ≤ B.sz) : CV ρ I (.slx l off len cap k) (.slice (some ⟨B.b, off, none⟩) len cap)
  | vec0 {a : Option Addr} {c : Nat} : CV ρ I (.vec 0 []) (.slice a 0 c)
  | vec {n c : Nat} {cs : List AV} {b off : Nat} {arr : Array Value} {vs : List Value} (hn : n ≤ c) (hm : c ≤ maxLen) (h : I b = some arr) (hl : vs.length = cs.length)
      (hc : ∀ (i : Nat) u, vs[i]? = some u → arr[off + i]? = some u) (hv : ∀ (i : Nat) a u, cs[i]? = some a → vs[i]? = some u → CV ρ I a u) : CV ρ I (.vec n cs) (.slice (some ⟨b, off, none⟩) n c)
  | map {l : Nat} {B : Blk} (h : ρ l = some B) : CV ρ I (.map l) (.map (some B.b))
  | func {fn : Fn} {cs : List AV} {vs : List Value} (hl : vs.length = cs.length) (hv : ∀ (i : Nat) a u, cs[i]? = some a → vs[i]? = some u → CV ρ I a u) : CV ρ I (.func fn cs) (.func fn #[] vs.toArray)
  | agg {cs : List AV} {vs : List Value} (hl : vs.length = cs.length) (hv : ∀ (i : Nat) a u, cs[i]? = some a → vs[i]? = some u → CV ρ I a u) : CV ρ I (.agg cs) (.agg vs.toArray)
  | tup {cs : List AV} {vs : List Value} (hl : vs.length = cs.length) (hv : ∀ (i : Nat) a u, cs[i]? = some a → vs[i]? = some u → CV ρ I a u) : CV ρ I (.tup cs) (.tuple vs.toArray)
  | iface {t : TypeId} {a : AV} {u : Value} (h : CV ρ I a u) : CV ρ I (.iface t a) (.iface t u)
  | yld {l : Nat} {B : Blk} (h : ρ l = some B) : CV ρ I (.yld l) (.func (.yield B.b) #[] #[])
  | cond {b : Bool} {a : AV} {u : Value} (h : b = true → CV ρ I a u) (h0 : b = false → u = undef) : CV ρ I (.cond b a) u

/-- Values one by one. -/
def CVs (ρ : Rho) (I : Imm) (cs : List AV) (vs : List Value) : Prop :=
  vs.length = cs.length ∧ ∀ (i : Nat) a u, cs[i]? = some a → vs[i]? = some u → CV ρ I a u

/-- What an abstract location holds. -/
inductive AObj where
  | cells (t : TypeId) (cs : List AV)
  | map (es : List (Value × AV))
  | obj (o : Obj)
  | lp (rec : Loop) (cs : List AV)

structure AHeap where
  get : Nat → Option AObj
  next : Nat

def AHeap.empty : AHeap := ⟨fun _ => none, 0⟩
def AHeap.set (H : AHeap) (l : Nat) (o : AObj) : AHeap := ⟨fun k => if k = l then some o else H.get k, H.next⟩
def AHeap.del (H : AHeap) (l : Nat) : AHeap := ⟨fun k => if k = l then none else H.get k, H.next⟩
def AHeap.new (H : AHeap) (o : AObj) : AHeap := ⟨fun k => if k = H.next then some o else H.get k, H.next + 1⟩

theorem AHeap.get_set_same (H : AHeap) (l : Nat) (o : AObj) : (H.set l o).get l = some o := by simp [AHeap.set]
theorem AHeap.get_set_ne (H : AHeap) {l k : Nat} (o : AObj) (h : k ≠ l) : (H.set l o).get k = H.get k := by simp [AHeap.set, h]
theorem AHeap.get_del_same (H : AHeap) (l : Nat) : (H.del l).get l = none := by simp [AHeap.del]
theorem AHeap.get_del_ne (H : AHeap) {l k : Nat} (h : k ≠ l) : (H.del l).get k = H.get k := by simp [AHeap.del, h]
theorem AHeap.get_new_same (H : AHeap) (o : AObj) : (H.new o).get H.next = some o := by simp [AHeap.new]
theorem AHeap.get_new_ne (H : AHeap) {k : Nat} (o : AObj) (h : k ≠ H.next) : (H.new o).get k = H.get k := by simp [AHeap.new, h]
theorem AHeap.next_set (H : AHeap) (l : Nat) (o : AObj) : (H.set l o).next = H.next := rfl
theorem AHeap.next_del (H : AHeap) (l : Nat) : (H.del l).next = H.next := rfl
theorem AHeap.next_new (H : AHeap) (o : AObj) : (H.new o).next = H.next + 1 := rfl

def ObjAt (ρ : Rho) (I : Imm) (w : World) (B : Blk) : AObj → Prop
  | .cells t cs => ∃ arr, w.heap[B.b]? = some (.cells arr t (0, 0)) ∧ arr.size = B.sz ∧ cs.length ≤ arr.size ∧ ∀ (i : Nat) a u, cs[i]? = some a → arr[i]? = some u → CV ρ I a u
  | .map es => ∃ ents clock, w.heap[B.b]? = some (.map ents clock) ∧ ents.size = es.length ∧
      (∀ (i : Nat) e en, es[i]? = some e → ents[i]? = some en → en.key = e.1 ∧ CV ρ I e.2 en.val) ∧
      (∀ (i : Nat) en, ents[i]? = some en → en.born < clock) ∧ (∀ (i j : Nat) x y, ents[i]? = some x → ents[j]? = some y → x.born = y.born → i = j)
  | .obj o => w.heap[B.b]? = some o
  | .lp rec cs => w.heap[B.b]? = some (.loop rec) ∧ ∀ (i : Nat) a, cs[i]? = some a → CV ρ I a (rec.tmps.getD i undef)

/-- A world bears an abstract heap. -/
structure Conc (ρ : Rho) (I : Imm) (w : World) (H : AHeap) : Prop where
  inj : ∀ l l' B B', ρ l = some B → ρ l' = some B' → (H.get l).isSome → (H.get l').isSome → B.b = B'.b → l = l'
  dom : ∀ l B, ρ l = some B → l < H.next
  obj : ∀ l o, H.get l = some o → ∃ B, ρ l = some B ∧ I B.b = none ∧ ObjAt ρ I w B o
  imm : ∀ b arr, I b = some arr → ∃ t fz, w.heap[b]? = some (.cells arr t fz)

def Owned (ρ : Rho) (H : AHeap) (b : Nat) : Prop := ∃ l B, ρ l = some B ∧ B.b = b ∧ (H.get l).isSome

/-- How one state came of another. -/
structure Ev (ρ : Rho) (I : Imm) (w : World) (H : AHeap) (ρ' : Rho) (I' : Imm) (w' : World) (H' : AHeap) : Prop where
  rho : ∀ l B, ρ l = some B → ρ' l = some B
  imm : ∀ b a, I b = some a → I' b = some a
  os : w'.os = w.os
  tape : w'.tape = w.tape
  output : w'.output = w.output
  size : w.heap.size ≤ w'.heap.size
  blk : ∀ b, b < w.heap.size → ¬ Owned ρ H b → w'.heap[b]? = w.heap[b]?
  own : ∀ b, b < w.heap.size → ¬ Owned ρ H b → ¬ Owned ρ' H' b
  next : H.next ≤ H'.next

theorem Ev.refl (ρ : Rho) (I : Imm) (w : World) (H : AHeap) : Ev ρ I w H ρ I w H :=
  ⟨fun _ _ h => h, fun _ _ h => h, rfl, rfl, rfl, Nat.le_refl _, fun _ _ _ => rfl, fun _ _ h => h, Nat.le_refl _⟩

theorem Ev.trans {ρ : Rho} {I : Imm} {w : World} {H : AHeap} {ρ1 : Rho} {I1 : Imm} {w1 : World} {H1 : AHeap} {ρ2 : Rho} {I2 : Imm} {w2 : World} {H2 : AHeap}
    (a : Ev ρ I w H ρ1 I1 w1 H1) (b : Ev ρ1 I1 w1 H1 ρ2 I2 w2 H2) : Ev ρ I w H ρ2 I2 w2 H2 where
  rho l B h := b.rho l B (a.rho l B h)
  imm x y h := b.imm x y (a.imm x y h)
  os := b.os.trans a.os
  tape := b.tape.trans a.tape
  output := b.output.trans a.output
  size := Nat.le_trans a.size b.size
  blk x hx ho := (b.blk x (Nat.lt_of_lt_of_le hx a.size) (a.own x hx ho)).trans (a.blk x hx ho)
  own x hx ho := b.own x (Nat.lt_of_lt_of_le hx a.size) (a.own x hx ho)
  next := Nat.le_trans a.next b.next

theorem CV.mono {ρ ρ' : Rho} {I I' : Imm} (hρ : ∀ l B, ρ l = some B → ρ' l = some B) (hI : ∀ b a, I b = some a → I' b = some a) {a : AV} {u : Value} (h : CV ρ I a u) : CV ρ' I' a u := by
  induction h with
  | v x => exact .v x
  | any y => exact .any y
  | ptr h => exact .ptr (hρ _ _ h)
  | ip h hl hc _ ih => exact .ip (hI _ _ h) hl hc ih
  | sl h hl hm hs => exact .sl (hρ _ _ h) hl hm hs
  | slc h hl hc hm hs => exact .slc (hρ _ _ h) hl hc hm hs
  | slx h hl hm hs => exact .slx (hρ _ _ h) hl hm hs
  | vec0 => exact .vec0
  | vec hn hm h hl hc _ ih => exact .vec hn hm (hI _ _ h) hl hc ih
  | map h => exact .map (hρ _ _ h)
  | func hl _ ih => exact .func hl ih
  | agg hl _ ih => exact .agg hl ih
  | tup hl _ ih => exact .tup hl ih
  | iface _ ih => exact .iface ih
  | yld h => exact .yld (hρ _ _ h)
  | cond _ h0 ih => exact .cond ih h0

theorem Ev.cv {ρ : Rho} {I : Imm} {w : World} {H : AHeap} {ρ' : Rho} {I' : Imm} {w' : World} {H' : AHeap} (e : Ev ρ I w H ρ' I' w' H') {a : AV} {u : Value} (h : CV ρ I a u) : CV ρ' I' a u :=
  h.mono e.rho e.imm

/-- The frame: a list of slots, what is said of each; the first that names a slot counts. -/
abbrev Fr := List (Nat × AV)

def look : Fr → Nat → AV
  | [], _ => .any
  | (j, a) :: r, i => bif Nat.beq i j then a else look r i

theorem look_cons (j : Nat) (a : AV) (r : Fr) (i : Nat) : look ((j, a) :: r) i = if i = j then a else look r i := by
  simp only [look]
  by_cases h : i = j
  · subst h; simp
  · rw [if_neg h]
    have : Nat.beq i j = false := by
      cases hb : Nat.beq i j with
      | false => rfl
      | true => exact (h (Nat.eq_of_beq_eq_true hb)).elim
    rw [this]; rfl

def TV (ρ : Rho) (I : Imm) (T : Fr) (a : Act) : Prop := ∀ i, CV ρ I (look T i) (a.tmps.getD i undef)

theorem TV.mono {ρ ρ' : Rho} {I I' : Imm} (hρ : ∀ l B, ρ l = some B → ρ' l = some B) (hI : ∀ b a, I b = some a → I' b = some a) {T : Fr} {a : Act} (h : TV ρ I T a) : TV ρ' I' T a :=
  fun i => (h i).mono hρ hI

def putA (T : Fr) : Option Tmp → AV → Fr
  | some d, x => (d, x) :: T
  | none, _ => T

theorem TV.put {ρ : Rho} {I : Imm} {T : Fr} {a : Act} (h : TV ρ I T a) {d : Option Tmp} {x : AV} {u : Value} (hd : ∀ t, d = some t → t < a.tmps.size) (hx : CV ρ I x u) : TV ρ I (putA T d x) (a.put d u) := by
  cases d with
  | none => exact h
  | some t =>
    have ht := hd t rfl
    intro i
    simp only [putA, look_cons, Act.put]
    by_cases hi : i = t
    · subst hi
      simp only [if_true]
      rw [Array.getD_eq_getD_getElem?, Array.getElem?_setIfInBounds]
      simp [ht, hx]
    · rw [if_neg hi]
      have := h i
      rw [Array.getD_eq_getD_getElem?, Array.getElem?_setIfInBounds, if_neg (fun e => hi e.symm)]
      rw [Array.getD_eq_getD_getElem?] at this
      exact this

theorem put_size (a : Act) (d : Option Tmp) (u : Value) : (a.put d u).tmps.size = a.tmps.size := by
  cases d <;> simp [Act.put]
theorem put_defers (a : Act) (d : Option Tmp) (u : Value) : (a.put d u).defers = a.defers := by
  cases d <;> simp [Act.put]

/-- An operand's abstract value. -/
def aev (T : Fr) : Operand → AV
  | .tmp t => look T t
  | .const x => .v x
  | .global _ => .any
  | .func f => .func (.func f) []

theorem aev_cv {ρ : Rho} {I : Imm} {T : Fr} {a : Act} (h : TV ρ I T a) (x : Operand) : CV ρ I (aev T x) (a.eval x) := by
  cases x with
  | tmp t => exact h t
  | const x => exact .v x
  | global g => exact .any _
  | func f => exact .func (vs := []) rfl (by simp)

end Go.Ax
