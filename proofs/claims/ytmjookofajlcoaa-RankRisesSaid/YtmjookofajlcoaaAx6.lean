/- The abstract layer, part 6: slices, arrays, strings: cutting, indexing, lengths, literals. -/
import Derived.Test.YtmjookofajlcoaaAx5
namespace Go.Ax

/-- A bound of a slice expression, as a number. -/
def boundE (T : Fr) (x : Option Operand) (dflt : Int) : Int :=
  match x with
  | none => dflt
  | some y => match aev T y with
    | .v (.int _ e) => e
    | _ => -1

section
variable {P : Program} {o : Oper} {T : Fr} {H : AHeap}

theorem run_bound {ρ : Rho} {I : Imm} {a : Act} (ht : TV ρ I T a) {x : Option Operand} {d l : Nat} (h : boundE T x d = (l : Int)) (y : Nat) (hy : l ≤ y) (code : BoundsCode) (w : World) :
    (match x.map a.eval with | some v => Instr.sliceBound v y code | none => pure d).run P w = .ok l w := by
  cases x with
  | none =>
    simp only [boundE] at h
    have : d = l := by omega
    subst this
    rfl
  | some z =>
    simp only [boundE] at h
    have hv := aev_cv ht z
    obtain ⟨k, e, hq⟩ : ∃ k e, aev T z = .v (.int k e) := by
      generalize aev T z = q at h
      split at h
      · exact ⟨_, _, rfl⟩
      · omega
    rw [hq] at h hv
    simp only at h
    subst h
    have := cv_v hv
    simp only [Option.map_some, this, Instr.sliceBound, asIntOf, Sem.run_bind, Sem.run_pure, Result.andThen]
    rw [if_pos (by omega)]
    simp

theorem run_bounds {ρ : Rho} {I : Imm} {a : Act} (ht : TV ρ I T a) {lo hi : Option Operand} {len cap l h : Nat} (hlo : boundE T lo (0 : Nat) = (l : Int)) (hhi : boundE T hi (len : Nat) = (h : Int)) (h1 : l ≤ h) (h2 : h ≤ cap) (isS : Bool) (w : World) :
    (Instr.sliceBounds isS len cap (lo.map a.eval) (hi.map a.eval) none).run P w = .ok (l, h, cap) w := by
  have e1 := run_bound (P := P) ht hhi cap h2 (if isS then .sliceAcap else .sliceAlen) w
  have e2 := run_bound (P := P) ht hlo h h1 .sliceB w
  unfold Instr.sliceBounds
  cases hi <;> cases lo <;> simp at e1 e2 ⊢ <;> simp [e1, e2]

variable {TT : Nat → TI} (hT : TOk P TT)
include hT

theorem run_sliceAt {ρ : Rho} {I : Imm} {a : Act} (ht : TV ρ I T a) {t e : TypeId} (hok : (TT t).ok = true) (hoke : (TT e).ok = true) (hu : (TT t).und = .slice e) {lo hi : Option Operand} {p : Option Addr} {len cap l h : Nat}
    (hlo : boundE T lo (0 : Nat) = (l : Int)) (hhi : boundE T hi (len : Nat) = (h : Int)) (h1 : l ≤ h) (h2 : h ≤ cap) (w : World) :
    (Instr.sliceAt t (.slice p len cap) (lo.map a.eval) (hi.map a.eval) ((none : Option Operand).map a.eval)).run P w = .ok (.slice (if cap = l then p else p.map (·.add (l * (TT e).size))) (h - l) (cap - l)) w := by
  simp [Instr.sliceAt, Instr.slice, (hT t hok).run_und w, hu, run_bounds ht hlo hhi h1 h2, (hT e hoke).run_size w]

theorem AStepD.slice_vec {t e : TypeId} {x : Operand} {lo hi : Option Operand} {n l h : Nat} {cs : List AV} (ho : o.op = .slice t x lo hi none) (hx : aev T x = .vec n cs) (hok : (TT t).ok = true) (hoke : (TT e).ok = true) (hu : (TT t).und = .slice e)
    (hlo : boundE T lo (0 : Nat) = (l : Int)) (hhi : boundE T hi (n : Nat) = (h : Int)) (h1 : l ≤ h) (h2 : h ≤ n) : AStepD P o T H (.vec (h - l) ((cs.drop (l * (TT e).size)).take ((h - l) * (TT e).size))) H := by
  refine .of_pure fun ρ I w a _ ht => ?_
  have hv := aev_eq ht hx
  generalize he : a.eval x = u at hv
  cases hv with
  | @vec0 p c =>
    have hh : h = 0 := by omega
    have hl : l = 0 := by omega
    subst hh; subst hl
    refine ⟨_, by simp only [execOp, ho, Sem.run_bind, he, run_sliceAt hT ht hok hoke hu hlo hhi (Nat.le_refl 0) (Nat.zero_le c) w, Result.andThen, Sem.run_pure]; rfl, ?_⟩
    simpa using CV.vec0
  | @vec _ c _ b off arr vs hn hm hI hl hc hvv =>
    refine ⟨_, by simp only [execOp, ho, Sem.run_bind, he, run_sliceAt hT ht hok hoke hu hlo hhi h1 (Nat.le_trans h2 hn) w, Result.andThen, Sem.run_pure]; rfl, ?_⟩
    by_cases hcl : c = l
    · have e0 : h - l = 0 := by omega
      rw [e0]
      simpa using CV.vec0
    · rw [if_neg hcl]
      simp only [Option.map_some, add_none]
      refine .vec (vs := (vs.drop (l * (TT e).size)).take ((h - l) * (TT e).size)) (by omega) (by omega) hI (by simp [hl]) (fun i u hu => ?_) (fun i a u ha hu => ?_)
      · rw [List.getElem?_take] at hu
        split at hu
        · rw [List.getElem?_drop] at hu; rw [Nat.add_assoc]; exact hc _ u hu
        · cases hu
      · rw [List.getElem?_take] at hu ha
        split at hu
        · rename_i hj; rw [if_pos hj] at ha
          rw [List.getElem?_drop] at hu ha
          exact hvv _ a u ha hu
        · cases hu

theorem AStepD.slice_sl {t e : TypeId} {x : Operand} {lo hi : Option Operand} {ll off len k l h : Nat} (ho : o.op = .slice t x lo hi none) (hx : aev T x = .sl ll off len k) (hok : (TT t).ok = true) (hoke : (TT e).ok = true) (hu : (TT t).und = .slice e) (hk : (TT e).size = k)
    (hlo : boundE T lo (0 : Nat) = (l : Int)) (hhi : boundE T hi (len : Nat) = (h : Int)) (h1 : l ≤ h) (h2 : h ≤ len) : AStepD P o T H (if l = len ∧ 0 < l then .vec 0 [] else .sl ll (off + l * k) (h - l) k) H := by
  subst hk
  refine .of_pure fun ρ I w a _ ht => ?_
  have hv := aev_eq ht hx
  generalize he : a.eval x = u at hv
  cases hv with
  | @sl _ _ _ _ c B hB hl hm hs =>
    refine ⟨_, by simp only [execOp, ho, Sem.run_bind, he, run_sliceAt hT ht hok hoke hu hlo hhi h1 (Nat.le_trans h2 hl) w, Result.andThen, Sem.run_pure]; rfl, ?_⟩
    by_cases hcl : l = len ∧ 0 < l
    · rw [if_pos hcl, show h - l = 0 by omega]
      exact .vec0
    · rw [if_neg hcl]
      by_cases hl0 : c = l
      · have : l = 0 := by omega
        subst this
        rw [if_pos hl0]
        simp only [Nat.zero_mul, Nat.add_zero, Nat.sub_zero]
        exact .sl hB (by omega) hm hs
      · rw [if_neg hl0]
        simp only [Option.map_some, add_none]
        refine .sl hB (by omega) (by omega) ?_
        have : (c - l) * (TT e).size + l * (TT e).size = c * (TT e).size := by rw [← Nat.add_mul]; congr 1; omega
        omega

theorem AStepD.slice_nil {t e : TypeId} {x : Operand} {lo hi : Option Operand} (ho : o.op = .slice t x lo hi none) (hx : aev T x = .v (.slice none 0 0)) (hok : (TT t).ok = true) (hoke : (TT e).ok = true) (hu : (TT t).und = .slice e)
    (hlo : boundE T lo (0 : Nat) = ((0 : Nat) : Int)) (hhi : boundE T hi (0 : Nat) = ((0 : Nat) : Int)) : AStepD P o T H (.v (.slice none 0 0)) H := by
  refine .of_pure fun ρ I w a _ ht => ?_
  have hv := cv_v (aev_eq ht hx)
  refine ⟨_, by simp only [execOp, ho, Sem.run_bind, hv, run_sliceAt hT ht hok hoke hu hlo hhi (Nat.le_refl 0) (Nat.le_refl 0) w, Result.andThen, Sem.run_pure]; rfl, ?_⟩
  simpa using CV.v _

theorem AStepD.slice_str {t : TypeId} {x : Operand} {lo hi : Option Operand} {l h : Nat} {s : ByteArray} (ho : o.op = .slice t x lo hi none) (hx : aev T x = .v (.string s)) (hok : (TT t).ok = true) (hu : (TT t).und = .string)
    (hlo : boundE T lo (0 : Nat) = (l : Int)) (hhi : boundE T hi (s.size : Nat) = (h : Int)) (h1 : l ≤ h) (h2 : h ≤ s.size) : AStepD P o T H (.v (.string (s.extract l h))) H := by
  refine .of_pure fun ρ I w a _ ht => ⟨_, ?_, .v _⟩
  have hv := cv_v (aev_eq ht hx)
  simp [execOp, ho, hv, Instr.sliceAt, Instr.slice, (hT t hok).run_und w, hu, run_bounds ht hlo hhi h1 h2]

/-- A whole array of a variable, as a slice. -/
theorem AStepD.slice_arr {t e : TypeId} {x : Operand} {lo hi : Option Operand} {ll off n l h k : Nat} {ty : TypeId} {cs : List AV} (ho : o.op = .slice t x lo hi none) (hx : aev T x = .ptr ll off) (hok : (TT t).ok = true) (hoke : (TT e).ok = true) (hu : (TT t).und = .array n e) (hk : (TT e).size = k)
    (hH : H.get ll = some (.cells ty cs)) (hfit : off + n * k ≤ cs.length) (hn : n ≤ maxLen) (hlo : boundE T lo (0 : Nat) = (l : Int)) (hhi : boundE T hi (n : Nat) = (h : Int)) (h1 : l ≤ h) (h2 : h ≤ n) (hl : l < n) : AStepD P o T H (.sl ll (off + l * k) (h - l) k) H := by
  subst hk
  refine .of_pure fun ρ I w a hc ht => ?_
  have hv := aev_eq ht hx
  obtain ⟨B, hB, _, arr, _, h3, h4, _⟩ := hc.obj ll _ hH
  generalize he : a.eval x = u at hv
  cases hv with
  | ptr hB' =>
    rw [hB] at hB'; cases hB'
    refine ⟨_, by simp [execOp, ho, he, Instr.sliceAt, (hT t hok).run_und w, hu, Instr.sureAddr, run_bounds ht hlo hhi h1 h2, (hT e hoke).run_size w]; rfl, ?_⟩
    rw [if_neg (by omega)]
    rw [add_none]
    refine .sl hB (by omega) (by omega) ?_
    have : (n - l) * (TT e).size + l * (TT e).size = n * (TT e).size := by rw [← Nat.add_mul]; congr 1; omega
    omega

/-! ### Indexing -/

theorem run_indexAt {t e : TypeId} (hok : (TT t).ok = true) (hoke : (TT e).ok = true) (hu : (TT t).und = .slice e) {b off len cap i : Nat} (hi : i < len) (k : IntKind) (w : World) :
    (Instr.indexAt t (.slice (some ⟨b, off, none⟩) len cap) (.int k (i : Int))).run P w = .ok (.pointer (some ⟨b, off + i * (TT e).size, none⟩)) w := by
  simp [Instr.indexAt, asIntOf, (hT t hok).run_und w, hu, (hT e hoke).run_size w, add_none, hi]

theorem AStepD.indexAddr_vec {t e : TypeId} {x y : Operand} {n i : Nat} {k : IntKind} {j : Int} {cs : List AV} (ho : o.op = .indexAddr t x y) (hx : aev T x = .vec n cs) (hy : aev T y = .v (.int k j)) (hok : (TT t).ok = true) (hoke : (TT e).ok = true) (hu : (TT t).und = .slice e)
    (hj : j = (i : Int)) (hi : i < n) : AStepD P o T H (.ip (cs.drop (i * (TT e).size))) H := by
  subst hj
  refine .of_pure fun ρ I w a _ ht => ?_
  have hv := aev_eq ht hx
  have hyv := cv_v (aev_eq ht hy)
  generalize he : a.eval x = u at hv
  cases hv with
  | vec0 => omega
  | @vec _ c _ b off arr vs hn hm hI hl hc hvv =>
    refine ⟨_, by simp only [execOp, ho, Sem.run_bind, he, hyv, run_indexAt hT hok hoke hu hi, Result.andThen, Sem.run_pure]; rfl, ?_⟩
    refine .ip (vs := vs.drop (i * (TT e).size)) hI (by simp [hl]) (fun q u hq => ?_) (fun q a u ha hq => ?_)
    · rw [List.getElem?_drop] at hq; rw [Nat.add_assoc]; exact hc _ u hq
    · rw [List.getElem?_drop] at hq ha; exact hvv _ a u ha hq

theorem AStepD.indexAddr_sl {t e : TypeId} {x y : Operand} {ll off len kk i : Nat} {k : IntKind} {j : Int} (ho : o.op = .indexAddr t x y) (hx : aev T x = .sl ll off len kk) (hy : aev T y = .v (.int k j)) (hok : (TT t).ok = true) (hoke : (TT e).ok = true) (hu : (TT t).und = .slice e)
    (hkk : (TT e).size = kk) (hj : j = (i : Int)) (hi : i < len) : AStepD P o T H (.ptr ll (off + i * kk)) H := by
  subst hj; subst hkk
  refine .of_pure fun ρ I w a _ ht => ?_
  have hv := aev_eq ht hx
  have hyv := cv_v (aev_eq ht hy)
  generalize he : a.eval x = u at hv
  cases hv with
  | sl hB _ _ _ =>
    exact ⟨_, by simp only [execOp, ho, Sem.run_bind, he, hyv, run_indexAt hT hok hoke hu hi, Result.andThen, Sem.run_pure], .ptr hB⟩

theorem AStepD.indexAddr_arr {t e : TypeId} {x y : Operand} {ll off n kk i : Nat} {k : IntKind} {j : Int} (ho : o.op = .indexAddr t x y) (hx : aev T x = .ptr ll off) (hy : aev T y = .v (.int k j)) (hok : (TT t).ok = true) (hoke : (TT e).ok = true) (hu : (TT t).und = .array n e)
    (hkk : (TT e).size = kk) (hj : j = (i : Int)) (hi : i < n) : AStepD P o T H (.ptr ll (off + i * kk)) H := by
  subst hj; subst hkk
  refine .of_pure fun ρ I w a _ ht => ?_
  have hv := aev_eq ht hx
  have hyv := cv_v (aev_eq ht hy)
  generalize he : a.eval x = u at hv
  cases hv with
  | ptr hB =>
    refine ⟨_, ?_, .ptr hB⟩
    simp [execOp, ho, he, hyv, Instr.indexAt, asIntOf, (hT t hok).run_und w, hu, Instr.sureAddr, (hT e hoke).run_size w, add_none, hi]

theorem AStepD.index_str {t : TypeId} {x y : Operand} {s : ByteArray} {i : Nat} {k : IntKind} {j : Int} (ho : o.op = .index t x y) (hx : aev T x = .v (.string s)) (hy : aev T y = .v (.int k j)) (hok : (TT t).ok = true) (hu : (TT t).und = .string)
    (hj : j = (i : Int)) (hi : i < s.size) : AStepD P o T H (.v (.int .u8 ((s[i]'hi).toNat : Int))) H := by
  subst hj
  refine .of_pure fun ρ I w a _ ht => ⟨_, ?_, .v _⟩
  simp [execOp, ho, cv_v (aev_eq ht hx), cv_v (aev_eq ht hy), Instr.index, asIntOf, (hT t hok).run_und w, hu, hi]

theorem AStepD.index_arr {t e : TypeId} {x y : Operand} {cs : List AV} {n i : Nat} {k : IntKind} {j : Int} (ho : o.op = .index t x y) (hx : aev T x = .agg cs) (hy : aev T y = .v (.int k j)) (hok : (TT t).ok = true) (hoke : (TT e).ok = true) (hu : (TT t).und = .array n e)
    (hj : j = (i : Int)) (hi : i < n) (hk : i * (TT e).size + (TT e).size ≤ cs.length) (h1 : (TT e).agg = false → (TT e).size = 1) : AStepD P o T H (wrapA (TT e).agg ((cs.drop (i * (TT e).size)).take (TT e).size)) H := by
  subst hj
  refine .of_pure fun ρ I w a _ ht => ?_
  have hv := aev_eq ht hx
  generalize he : a.eval x = u at hv
  cases hv with
  | @agg _ vs hl hvv =>
    refine ⟨_, ?_, cv_wrap (vs := (vs.drop (i * (TT e).size)).take (TT e).size) (by simp; omega) (fun q a u ha hu => ?_) (by intro e; have := h1 e; simp; omega)⟩
    · simp only [execOp, ho, Sem.run_bind, he, cv_v (aev_eq ht hy), Instr.index, asIntOf, Sem.run_pure, Result.andThen, (hT t hok).run_und w, hu]
      rw [if_pos (by omega)]
      simp only [Sem.run_bind, (hT e hoke).run_size w, Result.andThen, Int.toNat_natCast]
      rw [run_part (hT e hoke) (by omega) h1]
    · rw [List.getElem?_take] at hu ha
      split at hu
      · rename_i hj; rw [if_pos hj] at ha
        rw [List.getElem?_drop] at hu ha
        exact hvv _ a u ha hu
      · cases hu

/-! ### len -/

omit hT in
theorem run_builtin {b : Builtin} {args : Array Operand} {ats : Array TypeId} (ho : o.op = .call { callee := .builtin b, args := args, argTypes := ats }) (a : Act) (w : World) {u : Value} {w' : World}
    (h : (builtin b ats o.type (args.map fun | .const _ => true | _ => false) (args.map a.eval)).run P w = .ok (.value u) w') : (execOp a.eval o).run P w = .ok (.value u) w' := by
  simp only [execOp, ho, resolve, Sem.run_bind, Sem.run_pure, Result.andThen, invoke]
  exact h

/-- How long a value is. -/
def lenA : AV → Option Nat
  | .v (.string s) => some s.size
  | .v (.slice _ n _) => some n
  | .vec n _ => some n
  | .sl _ _ n _ => some n
  | .slc _ _ n _ _ => some n
  | .slx _ _ n _ _ => some n
  | _ => none

omit hT in
theorem lenA_v {z : Value} {n : Nat} (h : lenA (.v z) = some n) : (∃ s, z = .string s ∧ s.size = n) ∨ ∃ p c, z = .slice p n c := by
  cases z <;> simp_all [lenA]

theorem AStepD.len {t : TypeId} {x : Operand} {n : Nat} (ho : o.op = .call { callee := .builtin .len, args := #[x], argTypes := #[t] }) (hok : (TT t).ok = true) (hu : (TT t).und = .string ∨ ∃ e, (TT t).und = .slice e) (hx : lenA (aev T x) = some n)
    (hk : (TT t).und = .string ↔ ∃ s, aev T x = .v (.string s)) : AStepD P o T H (.v (.int .i64 (n : Int))) H := by
  refine .of_pure fun ρ I w a _ ht => ⟨_, run_builtin ho a w ?_, .v _⟩
  have hv := aev_cv ht x
  have hund := (hT t hok).run_und w
  have key : (∃ s, a.eval x = .string s ∧ s.size = n ∧ (TT t).und = .string) ∨ (∃ p c e, a.eval x = .slice p n c ∧ (TT t).und = .slice e) := by
    generalize a.eval x = u at hv
    generalize aev T x = q at hv hx hk
    cases hv with
    | v z =>
      rcases lenA_v hx with ⟨s, rfl, hs⟩ | ⟨p, c, rfl⟩
      · exact .inl ⟨s, rfl, hs, hk.2 ⟨s, rfl⟩⟩
      · rcases hu with hu | ⟨e, hu⟩
        · obtain ⟨s, hs⟩ := hk.1 hu; cases hs
        · exact .inr ⟨_, _, e, rfl, hu⟩
    | any | ptr | ip | map | func | agg | tup | iface | yld | cond => simp [lenA] at hx
    | vec0 | vec | sl | slc | slx =>
      simp only [lenA, Option.some.injEq] at hx
      subst hx
      rcases hu with hu | ⟨e, hu⟩
      · obtain ⟨s, hs⟩ := hk.1 hu; cases hs
      · exact .inr ⟨_, _, e, rfl, hu⟩
  rcases key with ⟨s, h1, h2, h3⟩ | ⟨p, c, e, h1, h2⟩
  · simp [builtin, Builtin.len_, hund, h1, h3, h2, goInt]
  · simp [builtin, Builtin.len_, hund, h1, h2, goInt]

theorem AStepD.len_arr {t e : TypeId} {x : Operand} {n : Nat} (ho : o.op = .call { callee := .builtin .len, args := #[x], argTypes := #[t] }) (hok : (TT t).ok = true) (hu : (TT t).und = .array n e) : AStepD P o T H (.v (.int .i64 (n : Int))) H :=
  .of_pure fun ρ I w a _ ht => ⟨_, run_builtin ho a w (by simp [builtin, Builtin.len_, (hT t hok).run_und w, hu, goInt]), .v _⟩

omit hT in
theorem AStepD.min2 {ts : Array TypeId} {x y : Operand} {k : IntKind} {a b r : Int} (ho : o.op = .call { callee := .builtin .min, args := #[x, y], argTypes := ts }) (hx : aev T x = .v (.int k a)) (hy : aev T y = .v (.int k b)) (hr : (if b < a then b else a) = r) : AStepD P o T H (.v (.int k r)) H :=
  .of_pure fun ρ I w a' _ ht => ⟨_, run_builtin ho a' w (by simp [builtin, Builtin.min_, Builtin.min2, cv_v (aev_eq ht hx), cv_v (aev_eq ht hy), hr]), .v _⟩
omit hT in
theorem AStepD.max2 {ts : Array TypeId} {x y : Operand} {k : IntKind} {a b r : Int} (ho : o.op = .call { callee := .builtin .max, args := #[x, y], argTypes := ts }) (hx : aev T x = .v (.int k a)) (hy : aev T y = .v (.int k b)) (hr : (if a < b then b else a) = r) : AStepD P o T H (.v (.int k r)) H :=
  .of_pure fun ρ I w a' _ ht => ⟨_, run_builtin ho a' w (by simp [builtin, Builtin.max_, Builtin.max2, cv_v (aev_eq ht hx), cv_v (aev_eq ht hy), hr]), .v _⟩
end
end Go.Ax
