/- The abstract layer, part 20: arguments that read as data, as abstract values; a law's call as the row wants it. -/
import Derived.Test.YtmjookofajlcoaaAx19
import Derived.ProofKit
import Derived.OpenShut
namespace Go.Ax

def immOf (w : World) : Imm := fun b => match w.heap[b]? with | some (.cells arr _ _) => some arr | _ => none
def noRho : Rho := fun _ => none

theorem immOf_some {w : World} {b : Nat} {arr : Array Value} (h : immOf w b = some arr) : ∃ t fz, w.heap[b]? = some (.cells arr t fz) := by
  unfold immOf at h
  split at h
  · rename_i a t fz he
    cases h
    exact ⟨t, fz, he⟩
  · cases h

theorem conc_empty (w : World) : Conc noRho (immOf w) w AHeap.empty :=
  ⟨fun _ _ _ _ h => (by cases h), fun _ _ h => (by cases h), fun _ _ h => (by cases h), fun _ _ h => immOf_some h⟩

/-- A law's call: it answers, and below the old heap's size nothing turns. -/
theorem calls_of_acalls {P : Program} {f : FuncId} {args : List AV} {x : Value} (h : ACalls P f args AHeap.empty fun r _ => r = .v x) {w : World} {vs : List Value} (hv : CVs noRho (immOf w) args vs) :
    Calls P f vs.toArray w fun e w' => e = .returned x ∧ Go.RowKit.Below w.heap.size w w' := by
  refine (h noRho (immOf w) w vs (conc_empty w) hv).mono ?_
  rintro e w' ⟨u, r, ρ', I', H', he, rfl, hr, _, ev⟩
  have := cv_v hr
  subst this
  exact ⟨he, ev.os, ev.tape, ev.output, ev.size, fun k hk => ev.blk k hk (by rintro ⟨l, B, hl, _⟩; cases hl)⟩

/-- The cells of a value of a type that reads as plain data. -/
inductive Sh (TT : Nat → TI) : TypeId → List AV → Prop
  | bool {t : TypeId} (b : Bool) (h : (TT t).und = .bool) : Sh TT t [.v (.bool b)]
  | int {t : TypeId} {k : IntKind} (n : Int) (h : (TT t).und = .int k) (hn : k.min ≤ n ∧ n ≤ k.max) : Sh TT t [.v (.int k n)]
  | str {t : TypeId} (s : ByteArray) (h : (TT t).und = .string) (hs : s.size ≤ maxLen) : Sh TT t [.v (.string s)]
  | slice {t e : TypeId} (rows : List (List AV)) (h : (TT t).und = .slice e) (hl : rows.length ≤ maxLen) (hr : ∀ r ∈ rows, Sh TT e r) (hs : ∀ r ∈ rows, r.length = (TT e).size) : Sh TT t [.vec rows.length rows.flatten]
  | struct {t : TypeId} {fs : Array Field} (rows : List (List AV)) (h : (TT t).und = .struct fs) (hl : rows.length = fs.size) (hr : ∀ (i : Nat) f r, fs[i]? = some f → rows[i]? = some r → Sh TT f.type r) (hs : ∀ (i : Nat) f r, fs[i]? = some f → rows[i]? = some r → r.length = (TT f.type).size) : Sh TT t rows.flatten
  | array {t e : TypeId} {n : Nat} (rows : List (List AV)) (h : (TT t).und = .array n e) (hl : rows.length = n) (hr : ∀ r ∈ rows, Sh TT e r) (hs : ∀ r ∈ rows, r.length = (TT e).size) : Sh TT t rows.flatten

def fieldsSeq (TT : Nat → TI) : Nat → List Field → Option Nat
  | o, [] => some o
  | o, f :: r => bif Nat.beq f.offset o then fieldsSeq TT (o + (TT f.type).size) r else none

def plainT (TT : Nat → TI) : Nat → TypeId → Bool
  | 0, _ => false
  | d + 1, t => (TT t).ok && match (TT t).und with
    | .bool | .string => Nat.beq (TT t).size 1
    | .int _ => Nat.beq (TT t).size 1
    | .slice e => Nat.beq (TT t).size 1 && Nat.blt 0 (TT e).size && (TT e).ok && plainT TT d e
    | .struct fs => (match fieldsSeq TT 0 fs.toList with | some e => Nat.beq e (TT t).size | none => false) && fs.toList.all fun f => plainT TT d f.type
    | .array n e => Nat.beq (n * (TT e).size) (TT t).size && (TT e).ok && plainT TT d e
    | _ => false

theorem plainT_ok {TT : Nat → TI} {d t : Nat} (h : plainT TT d t = true) : (TT t).ok = true := by
  cases d with
  | zero => cases h
  | succ d => simp only [plainT, Bool.and_eq_true] at h; exact h.1

theorem OkT.cellsOf {P : Program} {t : TypeId} {i : TI} (h : OkT P t i) : P.cellsOf t = i.size := by
  obtain ⟨f, hf, _, hs, _⟩ := h.info
  simp [Program.cellsOf, hf, hs]

theorem CVs.nil {ρ : Rho} {I : Imm} : CVs ρ I [] [] := ⟨rfl, fun i a u h => by simp at h⟩
theorem CVs.one {ρ : Rho} {I : Imm} {a : AV} {u : Value} (h : CV ρ I a u) : CVs ρ I [a] [u] := ⟨rfl, fun i x y hx hy => by
  cases i with
  | zero => simp only [List.getElem?_cons_zero, Option.some.injEq] at hx hy; subst hx; subst hy; exact h
  | succ i => simp at hx⟩
theorem CVs.append {ρ : Rho} {I : Imm} {as bs : List AV} {us vs : List Value} (h : CVs ρ I as us) (k : CVs ρ I bs vs) : CVs ρ I (as ++ bs) (us ++ vs) := by
  refine ⟨by simp [h.1, k.1], fun i a u ha hu => ?_⟩
  by_cases hi : i < as.length
  · rw [List.getElem?_append_left hi] at ha
    rw [List.getElem?_append_left (by rw [h.1]; exact hi)] at hu
    exact h.2 i a u ha hu
  · rw [List.getElem?_append_right (by omega)] at ha
    rw [List.getElem?_append_right (by rw [h.1]; omega), h.1] at hu
    exact k.2 _ a u ha hu
theorem CVs.cons {ρ : Rho} {I : Imm} {a : AV} {as : List AV} {u : Value} {us : List Value} (h : CV ρ I a u) (k : CVs ρ I as us) : CVs ρ I (a :: as) (u :: us) := (CVs.one h).append k

theorem flat_get {α : Type} {k : Nat} : ∀ (segs : List (List α)), (∀ s ∈ segs, s.length = k) → ∀ (j : Nat) u, segs.flatten[j]? = some u → ∃ i r seg, j = i * k + r ∧ r < k ∧ segs[i]? = some seg ∧ seg[r]? = some u
  | [], _, j, u, h => by simp at h
  | s :: ss, hk, j, u, h => by
    have hs := hk s (by simp)
    rw [List.flatten_cons] at h
    by_cases hj : j < s.length
    · rw [List.getElem?_append_left hj] at h
      exact ⟨0, j, s, by simp, by omega, rfl, h⟩
    · rw [List.getElem?_append_right (by omega)] at h
      obtain ⟨i, r, seg, h1, h2, h3, h4⟩ := flat_get ss (fun x hx => hk x (by simp [hx])) _ u h
      exact ⟨i + 1, r, seg, by rw [Nat.add_mul]; omega, h2, by simpa using h3, h4⟩

section
variable {H : Type} {enc : TypeId × Value → H} {P : Program} {TT : Nat → TI} (hT : TOk P TT) {w : World} {sp : Nat → Bool} {held : Bool}
include hT

omit hT in
/-- Rows of fields, one behind the other. -/
theorem rows_fields {cs : List Value} : ∀ (fs : List Field) (o e : Nat), fieldsSeq TT o fs = some e → e = cs.length → o ≤ cs.length →
    (∀ f ∈ fs, ∃ as, CVs noRho (immOf w) as ((cs.drop f.offset).take (TT f.type).size) ∧ Sh TT f.type as) →
    ∃ rows : List (List AV), rows.length = fs.length ∧ CVs noRho (immOf w) rows.flatten (cs.drop o) ∧ ∀ (i : Nat) f r, fs[i]? = some f → rows[i]? = some r → Sh TT f.type r ∧ r.length = (TT f.type).size
  | [], o, e, h, he, ho, _ => by
    simp only [fieldsSeq, Option.some.injEq] at h
    refine ⟨[], rfl, ?_, by simp⟩
    rw [List.drop_of_length_le (by omega)]
    exact .nil
  | f :: fs, o, e, h, he, ho, hf => by
    have mono : ∀ (l : List Field) (o e : Nat), fieldsSeq TT o l = some e → o ≤ e := by
      intro l
      induction l with
      | nil => intro o e h; simp [fieldsSeq] at h; omega
      | cons g l ih =>
        intro o e h
        simp only [fieldsSeq] at h
        cases hb : Nat.beq g.offset o with
        | false => rw [hb] at h; cases h
        | true => rw [hb] at h; have := ih _ _ h; omega
    simp only [fieldsSeq] at h
    cases hb : Nat.beq f.offset o with
    | false => rw [hb] at h; cases h
    | true =>
      rw [hb] at h
      simp only [cond_true] at h
      have hoff := Nat.eq_of_beq_eq_true hb
      have hle := mono _ _ _ h
      obtain ⟨as, h1, h2⟩ := hf f (by simp)
      obtain ⟨rows, h3, h4, h5⟩ := rows_fields fs _ e h he (by omega) (fun g hg => hf g (by simp [hg]))
      have hal : as.length = (TT f.type).size := by rw [← h1.1]; simp; omega
      refine ⟨as :: rows, by simp [h3], ?_, fun i g r hg hr => ?_⟩
      · have : cs.drop o = (cs.drop f.offset).take (TT f.type).size ++ cs.drop (o + (TT f.type).size) := by
          rw [hoff, ← List.drop_drop, List.take_append_drop]
        rw [this, List.flatten_cons]
        exact h1.append h4
      · cases i with
        | zero =>
          simp only [List.getElem?_cons_zero, Option.some.injEq] at hg hr
          subst hg; subst hr
          exact ⟨h2, hal⟩
        | succ i => exact h5 i g r (by simpa using hg) (by simpa using hr)

omit hT in
/-- Rows of an array. -/
theorem rows_array {cs : List Value} {e s : Nat} : ∀ (n o : Nat), cs.length = (o + n) * s →
    (∀ i, i < o + n → ∃ as, CVs noRho (immOf w) as ((cs.drop (i * s)).take s) ∧ Sh TT e as) →
    ∃ rows : List (List AV), rows.length = n ∧ CVs noRho (immOf w) rows.flatten (cs.drop (o * s)) ∧ ∀ r ∈ rows, Sh TT e r ∧ r.length = s
  | 0, o, hl, _ => ⟨[], rfl, by rw [List.drop_of_length_le (by simp at hl; omega)]; exact .nil, by simp⟩
  | n + 1, o, hl, hf => by
    obtain ⟨as, h1, h2⟩ := hf o (by omega)
    obtain ⟨rows, h3, h4, h5⟩ := rows_array n (o + 1) (by rw [hl]; congr 1; omega) (fun i hi => hf i (by omega))
    have e1 : (o + (n + 1)) * s = o * s + (n * s + s) := by rw [Nat.add_mul, Nat.add_mul, Nat.one_mul]
    have hal : as.length = s := by rw [← h1.1]; simp; omega
    refine ⟨as :: rows, by simp [h3], ?_, fun r hr => ?_⟩
    · have : cs.drop (o * s) = (cs.drop (o * s)).take s ++ cs.drop ((o + 1) * s) := by
        rw [Nat.add_mul, Nat.one_mul, ← List.drop_drop, List.take_append_drop]
      rw [this, List.flatten_cons]
      exact h1.append h4
    · rcases List.mem_cons.1 hr with rfl | hr
      · exact ⟨h2, hal⟩
      · exact h5 r hr

/-- Data of a plain type, as abstract values. -/
theorem sh_of_trod : ∀ (d : Nat) (t : TypeId) (fuel : Nat) (cs : List Value) (x : DataW H × List MemPlace), plainT TT d t = true → DataW.trod enc P w 0 sp held fuel t cs = some x →
    ∃ as, CVs noRho (immOf w) as cs ∧ Sh TT t as
  | 0, _, _, _, _, h, _ => by cases h
  | d + 1, t, fuel, cs, x, h, ht => by
    have hok := plainT_ok h
    have hund := (hT t hok).und
    simp only [plainT, Bool.and_eq_true] at h
    obtain ⟨_, h⟩ := h
    split at h
    · rename_i hu
      rw [hu] at hund
      obtain ⟨b, rfl, _⟩ := DataW.trod_bool hund ht
      exact ⟨_, .one (.v _), .bool b hu⟩
    · rename_i hu
      rw [hu] at hund
      obtain ⟨s, rfl, _, hs⟩ := DataW.trod_string hund ht
      exact ⟨_, .one (.v _), .str s hu hs⟩
    · rename_i k hu
      rw [hu] at hund
      obtain ⟨n, rfl, _, hn⟩ := DataW.trod_int hund ht
      simp only [Lit.wf, Bool.and_eq_true, decide_eq_true_eq] at hn
      exact ⟨_, .one (.v _), .int n hu hn⟩
    · rename_i e hu
      rw [hu] at hund
      simp only [Bool.and_eq_true] at h
      obtain ⟨⟨⟨_, hpos⟩, hoke⟩, hp⟩ := h
      have hpos : 0 < (TT e).size := Eq.mp Nat.blt_eq hpos
      have hce := (hT e hoke).cellsOf
      rcases DataW.trod_slice hund ht with ⟨rfl, _⟩ | ⟨a, len, cap, elems, rest, n, _, rfl, _, _, hlc, hcm, hel, hread, _⟩
      · exact ⟨[.vec 0 []], .one .vec0, by simpa using Sh.slice (TT := TT) [] hu (by simp) (by simp) (by simp)⟩
      · have key : ∀ i, i < len → ∃ seg as, w.cells? 0 (a.add (i * (TT e).size)) (TT e).size = some seg ∧ CVs noRho (immOf w) as seg ∧ Sh TT e as := by
          intro i hi
          have := hread i hi
          rw [hce] at this
          have hs : ∃ y, elems[i]? = some y := ⟨elems[i], by simp [hel, hi]⟩
          obtain ⟨y, hy⟩ := hs
          rw [hy] at this
          obtain ⟨seg, h1, h2⟩ := Option.bind_eq_some_iff.1 this
          obtain ⟨as, h3, h4⟩ := sh_of_trod d e n seg y hp h2
          exact ⟨seg, as, h1, h3, h4⟩
        have build : ∀ m, m ≤ len → ∃ (rows : List (List AV)) (segs : List (List Value)), rows.length = m ∧ segs.length = m ∧ CVs noRho (immOf w) rows.flatten segs.flatten ∧ (∀ r ∈ rows, Sh TT e r ∧ r.length = (TT e).size) ∧ (∀ s ∈ segs, s.length = (TT e).size) ∧
            ∀ (i : Nat) s, segs[i]? = some s → w.cells? 0 (a.add (i * (TT e).size)) (TT e).size = some s := by
          intro m
          induction m with
          | zero => exact fun _ => ⟨[], [], rfl, rfl, .nil, by simp, by simp, by simp⟩
          | succ m ih =>
            intro hm
            obtain ⟨rows, segs, h1, h2, h3, h4, h5, h6⟩ := ih (by omega)
            obtain ⟨seg, as, k1, k2, k3⟩ := key m (by omega)
            obtain ⟨_, hsl, _⟩ := World.cells?_some k1
            refine ⟨rows ++ [as], segs ++ [seg], by simp [h1], by simp [h2], ?_, ?_, ?_, ?_⟩
            · simpa using h3.append k2
            · intro r hr
              rcases List.mem_append.1 hr with hr | hr
              · exact h4 r hr
              · simp only [List.mem_singleton] at hr; subst hr
                exact ⟨k3, by rw [← k2.1, hsl]⟩
            · intro s hs
              rcases List.mem_append.1 hs with hs | hs
              · exact h5 s hs
              · simp only [List.mem_singleton] at hs; subst hs; exact hsl
            · intro i s hs
              by_cases hi : i < segs.length
              · rw [List.getElem?_append_left hi] at hs; exact h6 i s hs
              · rw [List.getElem?_append_right (by omega)] at hs
                have : i - segs.length = 0 := by
                  have := (List.getElem?_eq_some_iff.1 hs).1
                  simp at this; omega
                rw [this] at hs
                simp only [List.getElem?_cons_zero, Option.some.injEq] at hs
                subst hs
                have : i = m := by omega
                subst this
                exact k1
        obtain ⟨rows, segs, h1, h2, h3, h4, h5, h6⟩ := build len (Nat.le_refl _)
        refine ⟨[.vec rows.length rows.flatten], .one ?_, .slice rows hu (by omega) (fun r hr => (h4 r hr).1) (fun r hr => (h4 r hr).2)⟩
        rw [h1]
        by_cases h0 : len = 0
        · subst h0
          have : rows = [] := List.length_eq_zero_iff.1 h1
          subst this
          exact .vec0
        · obtain ⟨s0, hs0⟩ : ∃ s, segs[0]? = some s := ⟨segs[0]'(by omega), List.getElem?_eq_getElem _⟩
          obtain ⟨_, hl0, hc0⟩ := World.cells?_some (h6 0 s0 hs0)
          have hget : ∀ (i r : Nat) seg u, segs[i]? = some seg → seg[r]? = some u → w.cell? ((a.add (i * (TT e).size)).add r) = some u := by
            intro i r seg u hs hr
            obtain ⟨_, hl, hc⟩ := World.cells?_some (h6 i seg hs)
            rw [hc r (by have := (List.getElem?_eq_some_iff.1 hr).1; omega), hr]
          have h00 := hget 0 0 s0 s0[0] hs0 (by simp [hl0, hpos])
          obtain ⟨b, off, spot⟩ := a
          simp only [Nat.zero_mul, Addr.add, if_true] at h00
          unfold World.cell? at h00
          split at h00
          · rename_i arr ty fz hb
            split at h00
            · cases h00
            · rename_i hspot
              have : spot = none := by cases spot with | none => rfl | some _ => simp at hspot
              subst this
              have hI : immOf w b = some arr := by simp [immOf, hb]
              refine .vec (vs := segs.flatten) hlc hcm hI h3.1 (fun j u hu => ?_) h3.2
              obtain ⟨i, r, seg, hj, hr, hs, hu'⟩ := flat_get segs h5 j u hu
              have := hget i r seg u hs hu'
              rw [add_none, add_none, cell_of hb] at this
              rw [hj, ← Nat.add_assoc]
              exact this
          · cases h00
    · rename_i fs hu
      rw [hu] at hund
      simp only [Bool.and_eq_true, List.all_eq_true] at h
      obtain ⟨hsq, hall⟩ := h
      obtain ⟨xs, n, _, _, hcl, hxl, hfs⟩ := DataW.trod_struct hund ht
      split at hsq
      · rename_i e hfe
        have he := Nat.eq_of_beq_eq_true hsq
        rw [(hT t hok).cellsOf] at hcl
        obtain ⟨rows, h1, h2, h3⟩ := rows_fields (w := w) (cs := cs) fs.toList 0 e hfe (by omega) (Nat.zero_le _) (fun f hf => by
          obtain ⟨i, hi⟩ := List.mem_iff_getElem?.1 hf
          have hi' : fs[i]? = some f := by simpa using hi
          have hil := (Array.getElem?_eq_some_iff.1 hi').1
          have := hfs i f hi'
          have hpf := hall f hf
          rw [(hT f.type (plainT_ok hpf)).cellsOf, List.getElem?_eq_getElem (by omega : i < xs.length)] at this
          exact sh_of_trod d f.type n _ _ hpf this)
        exact ⟨rows.flatten, by simpa using h2, .struct rows hu (by simpa using h1) (fun i f r hf hr => (h3 i f r (by simpa using hf) hr).1) (fun i f r hf hr => (h3 i f r (by simpa using hf) hr).2)⟩
      · cases hsq
    · rename_i n e hu
      rw [hu] at hund
      simp only [Bool.and_eq_true] at h
      obtain ⟨⟨hsz, hoke⟩, hp⟩ := h
      have hsz := Nat.eq_of_beq_eq_true hsz
      obtain ⟨xs, m, _, _, hcl, hxl, hfs⟩ := DataW.trod_array hund ht
      rw [(hT t hok).cellsOf] at hcl
      obtain ⟨rows, h1, h2, h3⟩ := rows_array (w := w) (cs := cs) (e := e) (s := (TT e).size) n 0 (by rw [Nat.zero_add]; omega) (fun i hi => by
        have := hfs i (by omega)
        rw [(hT e hoke).cellsOf, List.getElem?_eq_getElem (by omega : i < xs.length)] at this
        exact sh_of_trod d e m _ _ hp this)
      exact ⟨rows.flatten, by simpa using h2, .array rows hu h1 (fun r hr => (h3 r hr).1) (fun r hr => (h3 r hr).2)⟩
    · cases h
end
end Go.Ax
