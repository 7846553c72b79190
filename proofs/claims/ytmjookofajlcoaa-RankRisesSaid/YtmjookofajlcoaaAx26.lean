/- The abstract layer, part 26: structs of integers compared. -/
import Derived.Test.YtmjookofajlcoaaAx25
import Derived.Laws.StructEq
namespace Go.Ax

def zA (l : List Int) : List AV := l.map fun a => .v (.int .i64 a)
/-- A struct all of whose fields are integers, one behind the other. -/
def flatInts (TT : Nat → TI) (i : Nat) : List Field → Bool
  | [] => true
  | f :: fs => (f.name != "_") && f.offset == i && (TT f.type).ok && !(TT f.type).agg && (match (TT f.type).und with | .int .i64 => true | _ => false) && flatInts TT (i + 1) fs

theorem zA_vals {ρ : Rho} {I : Imm} {l : List Int} {vs : List Value} (hl : vs.length = (zA l).length) (hv : ∀ (i : Nat) a u, (zA l)[i]? = some a → vs[i]? = some u → CV ρ I a u) : vs = l.map fun a => .int .i64 a := by
  refine List.ext_getElem? fun i => ?_
  by_cases hi : i < l.length
  · have h1 : (zA l)[i]? = some (.v (.int .i64 l[i])) := by simp [zA, hi]
    have hi2 : i < vs.length := by rw [hl]; simpa [zA] using hi
    have h2 := hv i _ _ h1 (List.getElem?_eq_getElem hi2)
    rw [List.getElem?_eq_getElem hi2, cv_v h2]
    simp [hi]
  · rw [List.getElem?_eq_none (by rw [hl]; simpa [zA] using hi), List.getElem?_eq_none (by simpa using hi)]

section
variable {P : Program} {o : Oper} {T : Fr} {H : AHeap} {TT : Nat → TI} (hT : TOk P TT)
include hT

theorem run_eqFields_ints (d : Nat) (xs ys : List Int) (w : World) : ∀ (fs : List Field) (i : Nat), flatInts TT i fs = true → i + fs.length = xs.length → xs.length = ys.length →
    (Op.eqFields (d + 1) (xs.map fun a => Value.int .i64 a).toArray (ys.map fun a => Value.int .i64 a).toArray fs).run P w = .ok (decide (xs.drop i = ys.drop i)) w
  | [], i, _, hl, hxy => by
    have h1 : xs.drop i = [] := List.drop_of_length_le (by simp at hl; omega)
    have h2 : ys.drop i = [] := List.drop_of_length_le (by simp at hl; omega)
    simp [Op.eqFields, h1, h2]
  | f :: fs, i, hf, hl, hxy => by
    simp only [flatInts, Bool.and_eq_true, bne_iff_ne, ne_eq, beq_iff_eq, Bool.not_eq_true'] at hf
    obtain ⟨⟨⟨⟨⟨h1, h2⟩, h3⟩, h4⟩, h5⟩, h6⟩ := hf
    have hx : i < xs.length := by simp at hl; omega
    have hy : i < ys.length := by omega
    have hu : (TT f.type).und = .int .i64 := by
      revert h5
      cases (TT f.type).und with
      | int k => cases k <;> simp
      | _ => simp
    have hund : P.underlying f.type = some (.int .i64) := by rw [(hT _ h3).und, hu]
    have hp : ∀ (zs : List Int) (hz : i < zs.length), (part f.type (zs.map fun a => Value.int .i64 a).toArray f.offset).run P w = .ok (.int .i64 zs[i]) w := by
      intro zs hz
      have ha := (hT _ h3).run_agg w
      simp [part, ha, h4, h2, hz, Result.andThen]
    have ih := run_eqFields_ints d xs ys w fs (i + 1) h6 (by simp at hl; omega) hxy
    simp only [Op.eqFields, h1, ne_eq, not_false_eq_true, if_true, Sem.run_bind, hp xs hx, hp ys hy, Result.andThen, run_equalIn_int w d f.type .i64 .i64 _ _ hund]
    rw [List.drop_eq_getElem_cons hx, List.drop_eq_getElem_cons hy]
    by_cases e : xs[i] = ys[i]
    · simp only [e, beq_self_eq_true, Bool.not_true, Bool.false_eq_true, if_false, ih, List.cons.injEq, true_and]
    · have e1 : (xs[i] == ys[i]) = false := by simp [e]
      have e2 : decide (xs[i] :: xs.drop (i + 1) = ys[i] :: ys.drop (i + 1)) = false := decide_eq_false fun h => e (List.cons.inj h).1
      simp only [e1, Bool.not_false, if_true, Sem.run_pure, e2]

theorem AStepD.struct_eq {t yt : TypeId} {x y : Operand} {fs : Array Field} {xs ys : List Int} {c : Bool} (op : BinOp) (hop : op = .eql ∨ op = .neq) (ho : o.op = .binOp op t x y yt) (hx : aev T x = .agg (zA xs)) (hy : aev T y = .agg (zA ys)) (hok : (TT t).ok = true) (hu : (TT t).und = .struct fs) (hst : P.stoodInHeld t = false) (hg : P.eqGuardType P.depth t = false)
    (hf : flatInts TT 0 fs.toList = true) (hl : xs.length = fs.size) (hl' : ys.length = fs.size) (hc : (if op = .eql then decide (xs = ys) else !decide (xs = ys)) = c) : AStepD P o T H (.v (.bool c)) H := by
  subst hc
  refine .of_pure fun ρ I w a hc ht => ⟨_, ?_, .v _⟩
  have h1 := aev_eq ht hx
  have h2 := aev_eq ht hy
  obtain ⟨e1, e2⟩ : a.eval x = .agg (xs.map fun a => Value.int .i64 a).toArray ∧ a.eval y = .agg (ys.map fun a => Value.int .i64 a).toArray := by
    generalize a.eval x = u at h1
    generalize a.eval y = v at h2
    cases h1 with | agg g1 g2 =>
    cases h2 with | agg k1 k2 =>
    rw [zA_vals g1 g2, zA_vals k1 k2]
    exact ⟨rfl, rfl⟩
  have hund : P.underlying t = some (.struct fs) := by rw [(hT t hok).und, hu]
  have hfo : P.fieldsOf t = fs := by simp [Program.fieldsOf, hund]
  have hr := run_equalIn_struct (P := P) w 9999 t (xs.map fun a => Value.int .i64 a).toArray (ys.map fun a => Value.int .i64 a).toArray (by rw [hfo]; exact hund) hst
  rw [hfo, run_eqFields_ints hT 9998 xs ys w fs.toList 0 hf (by simp [hl]) (by omega)] at hr
  simp only [List.drop_zero] at hr
  rcases hop with rfl | rfl
  · simp only [execOp, ho, Sem.run_bind, e1, e2, run_eqGuard_agg w _ t x y _ _ hg, run_eql_struct, hr, Result.andThen, Sem.run_pure, if_true]
  · simp only [execOp, ho, Sem.run_bind, e1, e2, run_eqGuard_agg w _ t x y _ _ hg, run_neq_struct, hr, Result.andThen, Sem.run_pure]
    rfl
end
end Go.Ax
