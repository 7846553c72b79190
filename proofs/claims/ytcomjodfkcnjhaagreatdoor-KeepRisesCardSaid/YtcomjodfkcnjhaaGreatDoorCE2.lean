/- The abstract layer, part 13: more steps with their values written out; calls with a known outcome. -/
import Derived.Test.YtcomjodfkcnjhaaGreatDoorCE1
import Derived.Laws.BytesString
import Derived.Lib.ConvBytes
import Derived.ProofKit
import Derived.OpenShut
import Derived.Lib.AppendZerosOnto
import Derived.Lib.Overlaps
set_option linter.unusedSimpArgs false
set_option linter.unusedVariables false
namespace Go.Ax
set_option linter.unusedSectionVars false
variable [Tabs]
variable {md : Md}

section
variable {P : Program} {o : Oper} {T : Fr} {H H1 : AHeap} {y : AV}

theorem AStepD.callf {f : FuncId} {args : Array Operand} {ats : Array TypeId} {as : List AV} (ho : o.op = .call { callee := .value (.func f), args := args, argTypes := ats }) (he : Enters P f) (ha : args.toList.map (aev T) = as)
    (h : ACalls P f as H fun r H' => r = y ∧ H' = H1) : AStepD P o T H y H1 := by
  subst ha
  exact AStep.callf ho he h
def boundV (T : Fr) (x : Option Operand) (d : Int) : AV := match x with | none => .v (.int .i64 d) | some z => aev T z
theorem boundV_E {x : Option Operand} {d : Int} {k : IntKind} {e : Int} (h : boundV T x d = .v (.int k e)) : boundE T x d = e := by
  cases x with
  | none => simp only [boundV, AV.v.injEq, Value.int.injEq] at h; exact h.2
  | some z => simp only [boundV] at h; simp only [boundE, h]

variable {TT : Nat → TI} (hT : TOk P TT)
include hT

theorem AStepD.slice_str' {t : TypeId} {x : Operand} {lo hi : Option Operand} {l h : Nat} {s : ByteArray} {kl kh : IntKind} {el eh : Int} (ho : o.op = .slice t x lo hi none) (hx : aev T x = .v (.string s)) (hok : (TT t).ok = true) (hu : (TT t).und = .string)
    (bl : boundV T lo (0 : Nat) = .v (.int kl el)) (bh : boundV T hi (s.size : Nat) = .v (.int kh eh)) (hl : el = (l : Int)) (hh : eh = (h : Int)) (h1 : l ≤ h) (h2 : h ≤ s.size) : AStepD P o T H (.v (.string (s.extract l h))) H :=
  .slice_str hT ho hx hok hu ((boundV_E bl).trans hl) ((boundV_E bh).trans hh) h1 h2
theorem AStepD.slice_arr' {t e : TypeId} {x : Operand} {lo hi : Option Operand} {ll off n l h k : Nat} {ty : TypeId} {cs : List AV} {kl kh : IntKind} {el eh : Int} (ho : o.op = .slice t x lo hi none) (hx : aev T x = .ptr ll off) (hok : (TT t).ok = true) (hu : (TT t).und = .array n e) (hoke : (TT e).ok = true) (hk : (TT e).size = k)
    (hH : H.get ll = some (.cells ty cs)) (bl : boundV T lo (0 : Nat) = .v (.int kl el)) (bh : boundV T hi (n : Nat) = .v (.int kh eh)) (hl : el = (l : Int)) (hh : eh = (h : Int)) (hfit : off + n * k ≤ cs.length) (hn : n ≤ maxLen) (h1 : l ≤ h) (h2 : h ≤ n) (h3 : l < n) : AStepD P o T H (.sl ll (off + l * k) (h - l) k) H :=
  .slice_arr hT ho hx hok hoke hu hk hH hfit hn ((boundV_E bl).trans hl) ((boundV_E bh).trans hh) h1 h2 h3

theorem AStepD.indexAddr_vec' {t e : TypeId} {x y : Operand} {n i kk : Nat} {k : IntKind} {j : Int} {cs : List AV} (ho : o.op = .indexAddr t x y) (hx : aev T x = .vec n cs) (hy : aev T y = .v (.int k j)) (hok : (TT t).ok = true) (hu : (TT t).und = .slice e) (hoke : (TT e).ok = true) (hk : (TT e).size = kk)
    (hj : j = (i : Int)) (hi : i < n) : AStepD P o T H (.ip (cs.drop (i * kk))) H := by
  subst hk
  exact .indexAddr_vec hT ho hx hy hok hoke hu hj hi

theorem AStepD.append' {t t2 e : TypeId} {x z : Operand} {l len n k : Nat} {ys cs : List AV} {ty : TypeId} {src : AV} {m bk : Nat} {zs : List AV} (ho : o.op = .call { callee := .builtin .append, args := #[x, z], argTypes := #[t, t2] }) (hx : aev T x = .sl l 0 len k) (hz : aev T z = src) (hok : (TT t).ok = true) (hu : (TT t).und = .slice e) (hok2 : (TT t2).ok = true) (hu2 : (TT t2).und = .slice e)
    (hoke : (TT e).ok = true) (hk : (TT e).size = k) (hbk : Nat.ble (TT e).bytes bk = true) (hH : H.get l = some (.cells ty cs)) (hte : ty = e) (hcs : cs.length = len * k) (hsrc : Src H k src n ys) (hys : ys.length = n * k) (hone : ∀ z ∈ ys, z.one = true)
    (hb : (len + n) * bk ≤ 140737488355328) (hm : len + n ≤ 9223372036854775807) (hmm : len + n = m) (hzs : cs ++ ys = zs) :
    AStepD P o T H (.sl H.next 0 m k) ((H.new (.cells e zs)).del l) := by
  subst hmm; subst hzs
  exact .append hT ho hx hH hcs (hz ▸ hsrc) hys hone hok hoke hok2 hu hu2 hk hte (Nat.le_trans (Nat.mul_le_mul_left _ (Nat.le_of_ble_eq_true hbk)) hb) hm
theorem AStepD.append_nil' {t t2 e : TypeId} {x z : Operand} {n k bk : Nat} {ys : List AV} {src : AV} (ho : o.op = .call { callee := .builtin .append, args := #[x, z], argTypes := #[t, t2] }) (hx : aev T x = .v (.slice none 0 0)) (hz : aev T z = src) (hok : (TT t).ok = true) (hu : (TT t).und = .slice e) (hok2 : (TT t2).ok = true) (hu2 : (TT t2).und = .slice e)
    (hoke : (TT e).ok = true) (hk : (TT e).size = k) (hbk : Nat.ble (TT e).bytes bk = true) (hsrc : Src H k src n ys) (hys : ys.length = n * k) (hn : 0 < n) (hb : n * bk ≤ 140737488355328) (hm : n ≤ 9223372036854775807) :
    AStepD P o T H (.sl H.next 0 n k) (H.new (.cells e ys)) := by
  exact .append_nil hT ho hx (hz ▸ hsrc) hys hn hok hoke hok2 hu hu2 hk (Nat.le_trans (Nat.mul_le_mul_left _ (Nat.le_of_ble_eq_true hbk)) hb) hm
end

theorem AW.frame {P : Program} {c : Code} {Q : APost} {T T' : Fr} {H H' : AHeap} {n : Nat} (hT : T = T') (hH : H = H') (h : AW md P c Q T' H' n) : AW md P c Q T H n := by subst hT; subst hH; exact h

end Go.Ax

/- The abstract layer, part 14: a slice against nil with what that says of its length; lengths; a list that is grown. -/

namespace Go.Ax
set_option linter.unusedSectionVars false
variable [Tabs]
variable {md : Md}

def Keep (H H' : AHeap) : Prop := H.next ≤ H'.next ∧ ∀ l, l < H.next → H'.get l = H.get l
theorem Keep.refl (H : AHeap) : Keep H H := ⟨Nat.le_refl _, fun _ _ => rfl⟩
theorem Keep.trans {H H1 H2 : AHeap} (a : Keep H H1) (b : Keep H1 H2) : Keep H H2 := ⟨Nat.le_trans a.1 b.1, fun l h => (b.2 l (Nat.lt_of_lt_of_le h a.1)).trans (a.2 l h)⟩
theorem Keep.new {H H' : AHeap} {o : AObj} (h : Keep H H') : Keep H (H'.new o) :=
  ⟨Nat.le_trans h.1 (Nat.le_succ _), fun l hl => (AHeap.get_new_ne _ _ (by have := h.1; omega)).trans (h.2 l hl)⟩
theorem Keep.set {H H' : AHeap} {o : AObj} {k : Nat} (h : Keep H H') (hk : H.next ≤ k) : Keep H (H'.set k o) :=
  ⟨h.1, fun l hl => (AHeap.get_set_ne _ _ (by omega)).trans (h.2 l hl)⟩
theorem Keep.del {H H' : AHeap} {k : Nat} (h : Keep H H') (hk : H.next ≤ k) : Keep H (H'.del k) :=
  ⟨h.1, fun l hl => (AHeap.get_del_ne _ (by omega)).trans (h.2 l hl)⟩

theorem AHeap.get_new_eq (H : AHeap) {k : Nat} (o : AObj) (h : k = H.next) : (H.new o).get k = some o := h ▸ AHeap.get_new_same H o
theorem AHeap.get_set_eq (H : AHeap) {k l : Nat} (o : AObj) (h : k = l) : (H.set l o).get k = some o := h ▸ AHeap.get_set_same H k o
theorem AHeap.get_del_eq (H : AHeap) {k l : Nat} (h : k = l) : (H.del l).get k = none := h ▸ AHeap.get_del_same H k

theorem agg_one {b : Bool} {n : Nat} (h : (b || Nat.beq n 1) = true) : b = false → n = 1 := by
  rintro rfl
  exact Nat.eq_of_beq_eq_true (by simpa using h)
theorem one_v (x : Value) : (AV.v x).one = x.oneCell' := rfl
theorem one_ptr (l k : Nat) : (AV.ptr l k).one = true := rfl
theorem one_ip (cs : List AV) : (AV.ip cs).one = true := rfl
theorem one_sl (l o n k : Nat) : (AV.sl l o n k).one = true := rfl
theorem one_slc (l o n c k : Nat) : (AV.slc l o n c k).one = true := rfl
theorem one_vec (n : Nat) (cs : List AV) : (AV.vec n cs).one = true := rfl
theorem one_map (l : Nat) : (AV.map l).one = true := rfl
theorem one_func (f : Fn) (cs : List AV) : (AV.func f cs).one = true := rfl
theorem one_iface (t : TypeId) (a : AV) : (AV.iface t a).one = true := rfl
theorem ones_nil : ∀ z ∈ ([] : List AV), z.one = true := fun _ h => absurd h List.not_mem_nil

section
variable {P : Program} {o : Oper} {T : Fr} {H : AHeap} {TT : Nat → TI} (hT : TOk P TT)

inductive IsSl : AV → Nat → Prop
  | vec {n : Nat} {cs : List AV} : IsSl (.vec n cs) n
  | sl {l off n k : Nat} : IsSl (.sl l off n k) n
  | slc {l off n c k : Nat} : IsSl (.slc l off n c k) n
  | slx {l off n c k : Nat} : IsSl (.slx l off n c k) n
  | nil : IsSl (.v (.slice none 0 0)) 0

theorem IsSl.conc {x : AV} {n : Nat} (h : IsSl x n) {ρ : Rho} {I : Imm} {u : Value} (hv : CV ρ I x u) : ∃ p c, u = .slice p n c ∧ (p = none → n = 0) := by
  cases h with
  | vec => cases hv with
    | vec0 => exact ⟨_, _, rfl, fun _ => rfl⟩
    | vec => exact ⟨_, _, rfl, fun h => by cases h⟩
  | sl => cases hv with
    | sl => exact ⟨_, _, rfl, fun h => by cases h⟩
  | slc => cases hv with
    | slc => exact ⟨_, _, rfl, fun h => by cases h⟩
  | slx => cases hv with
    | slx => exact ⟨_, _, rfl, fun h => by cases h⟩
  | nil =>
    have := cv_v hv
    subst this
    exact ⟨_, _, rfl, fun _ => rfl⟩

theorem Src.isSl {k : Nat} {x : AV} {n : Nat} {ys : List AV} (h : Src H k x n ys) : IsSl x n := by
  cases h with
  | vec => exact .vec
  | sl => exact .sl
  | nil => exact .nil

omit hT in
theorem Src.new {k : Nat} {x : AV} {n : Nat} {ys : List AV} (h : Src H k x n ys) {o : AObj} (hl : ∀ l q, H.get l = some q → l < H.next) : Src (H.new o) k x n ys := by
  cases h with
  | vec => exact .vec
  | sl h hf =>
    have := hl _ _ h
    exact .sl (by rw [AHeap.get_new_ne _ _ (by omega)]; exact h) hf
  | nil => exact .nil

omit hT in
theorem Src.keep {k : Nat} {x : AV} {n : Nat} {ys : List AV} (h : Src H k x n ys) (hl : ∀ l q, H.get l = some q → l < H.next) {H' : AHeap} (hk : Keep H H') : Src H' k x n ys := by
  cases h with
  | vec => exact .vec
  | sl h hf => exact .sl ((hk.2 _ (hl _ _ h)).trans h) hf
  | nil => exact .nil

omit hT in
theorem over_all {cs ys : List AV} (h : Nat.beq cs.length ys.length = true) : over cs 0 ys = ys := by
  have := Nat.eq_of_beq_eq_true h
  simp [over, this]

omit hT in
theorem Src.one {k : Nat} {x : AV} {n : Nat} {ys : List AV} (h : Src H k x n ys) : x.one = true := by cases h <;> rfl

include hT
theorem AStep.eq_nil {t yt e : TypeId} {x y : Operand} {n : Nat} (ho : o.op = .binOp .eql t x y yt) (hx : IsSl (aev T x) n) (hy : aev T y = .v (.slice none 0 0)) (hok : (TT t).ok = true) (hu : (TT t).und = .slice e) :
    AStep P o T H fun z H' => H' = H ∧ ∃ b, z = .v (.bool b) ∧ (b = true → n = 0) := by
  refine .of_run fun ρ I w a hc ht => ?_
  obtain ⟨p, c, hp, hn⟩ := hx.conc (aev_cv ht x)
  have h1 : (eqGuard .eql t x y (a.eval x) (a.eval y)).run P w = .ok () w := by rw [hp, cv_v (aev_eq ht hy)]; simp [eqGuard]
  have h2 : ∀ d, (Op.equalIn (d + 1) t (a.eval x) (a.eval y)).run P w = .ok p.isNone w := by
    intro d
    rw [hp, cv_v (aev_eq ht hy)]
    cases p <;> simp [Op.equalIn, (hT t hok).run_und w, hu]
  have h3 : binOp .eql t (a.eval x) (a.eval y) = (do pure (.bool (← Op.equal t (a.eval x) (a.eval y)))) := by rw [hp, cv_v (aev_eq ht hy)]; rfl
  have h5 := h2 9999
  refine ⟨_, w, _, ρ, I, H, ?_, ⟨rfl, p.isNone, rfl, fun h => hn (by cases p with | none => rfl | some _ => cases h)⟩, .v _, hc, .refl ρ I w H⟩
  simp only [execOp, ho, Sem.run_bind, h1, Result.andThen, h3, Op.equal, Op.maxDepth, h5, Sem.run_pure]

theorem AStepD.len_sl {t e : TypeId} {x : Operand} {n : Nat} {z : AV} (ho : o.op = .call { callee := .builtin .len, args := #[x], argTypes := #[t] }) (hx : aev T x = z) (hn : IsSl z n) (hok : (TT t).ok = true) (hu : (TT t).und = .slice e) :
    AStepD P o T H (.v (.int .i64 (n : Int))) H := by
  refine .len hT ho hok (.inr ⟨e, hu⟩) ?_ ⟨fun h => ?_, ?_⟩
  · rw [hx]; cases hn <;> rfl
  · rw [hu] at h; cases h
  · rintro ⟨s, hs⟩
    rw [hx] at hs
    subst hs
    cases hn
theorem AStepD.buildSlice0 {t e : TypeId} (ho : o.op = .buildSlice t 0 #[]) (hok : (TT t).ok = true) (hu : (TT t).und = .slice e) (hoke : (TT e).ok = true) {k : Nat} (hk : (TT e).size = k) : AStepD P o T H (.sl H.next 0 0 k) (H.new (.cells e [])) :=
  .buildSlice hT ho hok hu hoke hk (by simp) (by simp) (by simp [afill, zerosA]) (by simp)
theorem AStepD.buildSlice1 {t e : TypeId} {x : Operand} {z : AV} {cs : List AV} (ho : o.op = .buildSlice t 1 #[(0, x)]) (hok : (TT t).ok = true) (hu : (TT t).und = .slice e) (hoke : (TT e).ok = true) {k : Nat} (hk : (TT e).size = k) (hz : aev T x = z) (hcs : z.cells = cs)
    (hl : cs.length = k) (hbig : k ≤ 16777216) (hone : ∀ y ∈ cs, y.one = true) : AStepD P o T H (.sl H.next 0 1 k) (H.new (.cells e cs)) := by
  subst hz; subst hcs
  refine .buildSlice hT ho hok hu hoke hk (by omega) (by simp [maxLen]) ?_ (by simpa using hone)
  have hz := (hT e hoke).zs
  have hzl : (zerosA (TT e).zero 1).length = k := by simp [zerosA, hz, hk]
  simp [afill, hl, hzl, over]
theorem AStepD.store' {t : TypeId} {x y : Operand} {l off k : Nat} {ty : TypeId} {cs ys zs : List AV} {z : AV} (ho : o.op = .store t x y) (hx : aev T x = .ptr l off) (hH : H.get l = some (.cells ty cs)) (hy : aev T y = z) (hz : z.cells = ys) (hys : ∀ x ∈ ys, x.one = true) (hok : (TT t).ok = true)
    (hl : ys.length = k) (hkk : Nat.beq (TT t).size k = true) (hk : off + k ≤ cs.length) (hzs : over cs off ys = zs) : AStepD P o T H .any (H.set l (.cells ty zs)) := by
  subst hy; subst hz; subst hzs
  have := Nat.eq_of_beq_eq_true hkk
  exact .store hT ho hx hok hH rfl hys (by omega) (by omega)
theorem AStepD.load_agg {t : TypeId} {x : Operand} {l off k : Nat} {ty : TypeId} {cs zs : List AV} (ho : o.op = .load t x) (hx : aev T x = .ptr l off) (hag : (TT t).agg = true) (hH : H.get l = some (.cells ty cs)) (hok : (TT t).ok = true)
    (hs : (TT t).size = k) (hk : off + k ≤ cs.length) (hv : (cs.drop off).take k = zs) : AStepD P o T H (.agg zs) H := by
  subst hs; subst hv
  have := AStepD.load_ptr hT ho hx hok hH hk (fun h => by rw [hag] at h; cases h)
  simpa [wrapA, hag] using this
theorem AStepD.load_one {t : TypeId} {x : Operand} {l off : Nat} {ty : TypeId} {cs : List AV} {y : AV} (ho : o.op = .load t x) (hx : aev T x = .ptr l off) (hag : (TT t).agg = false) (hs : Nat.beq (TT t).size 1 = true) (hH : H.get l = some (.cells ty cs)) (hok : (TT t).ok = true)
    (hv : cs[off]? = some y) : AStepD P o T H y H := by
  have hs := Nat.eq_of_beq_eq_true hs
  obtain ⟨hlt, hy⟩ := List.getElem?_eq_some_iff.1 hv
  have := AStepD.load_ptr hT ho hx hok hH (by omega) (fun _ => hs)
  rw [hs, List.drop_eq_getElem_cons hlt, hy] at this
  simpa [wrapA, hag] using this
theorem AStepD.load_agg_ip {t : TypeId} {x : Operand} {k : Nat} {cs zs : List AV} (ho : o.op = .load t x) (hx : aev T x = .ip cs) (hag : (TT t).agg = true) (hok : (TT t).ok = true)
    (hs : (TT t).size = k) (hk : k ≤ cs.length) (hv : cs.take k = zs) : AStepD P o T H (.agg zs) H := by
  subst hs; subst hv
  have := AStepD.load_ip hT (H := H) ho hx hok hk (fun h => by rw [hag] at h; cases h)
  simpa [wrapA, hag] using this
theorem AStepD.load_one_ip {t : TypeId} {x : Operand} {cs : List AV} {y : AV} (ho : o.op = .load t x) (hx : aev T x = .ip cs) (hag : (TT t).agg = false) (hs : Nat.beq (TT t).size 1 = true) (hok : (TT t).ok = true)
    (hv : cs[0]? = some y) : AStepD P o T H y H := by
  have hs := Nat.eq_of_beq_eq_true hs
  cases cs with
  | nil => simp at hv
  | cons c cs =>
    simp only [List.getElem?_cons_zero, Option.some.injEq] at hv
    subst hv
    have := AStepD.load_ip hT (H := H) ho hx hok (by simp; omega) (fun _ => hs)
    rw [hs] at this
    simpa [wrapA, hag] using this
theorem AStepD.len_str {t : TypeId} {x : Operand} {s : ByteArray} (ho : o.op = .call { callee := .builtin .len, args := #[x], argTypes := #[t] }) (hx : aev T x = .v (.string s)) (hok : (TT t).ok = true) (hu : (TT t).und = .string) :
    AStepD P o T H (.v (.int .i64 (s.size : Int))) H :=
  .len hT ho hok (.inl hu) (by rw [hx]; rfl) ⟨fun _ => ⟨s, hx⟩, fun _ => hu⟩
end

theorem AW.lts {P : Program} {c : Code} {Q : APost} {T : Fr} {H : AHeap} {n : Nat} (k : (∀ l q, H.get l = some q → l < H.next) → AW md P c Q T H n) : AW md P c Q T H n :=
  fun ρ I w a hc ht hn hd => k (fun _ _ h => AHeap.get_lt hc h) ρ I w a hc ht hn hd
theorem ACalls.lts {P : Program} {f : FuncId} {args : List AV} {R : AV → AHeap → Prop} {H : AHeap} (k : (∀ l q, H.get l = some q → l < H.next) → ACalls P f args H R) : ACalls P f args H R :=
  fun ρ I w vs hc ha => k (fun _ _ h => AHeap.get_lt hc h) ρ I w vs hc ha

theorem retA_nil {TT : Nat → TI} {T : Fr} {H : AHeap} : retA TT T H [] = some [] := rfl
theorem retA_tmp {TT : Nat → TI} {T : Fr} {H : AHeap} {rs r : List ResultVar} {t : Nat} {x : AV} {xs : List AV} (h : rs = .tmp t :: r) (hx : look T t = x) (hr : retA TT T H r = some xs) : retA TT T H rs = some (x :: xs) := by
  subst h; subst hx; simp [retA, hr]
theorem retA_agg {TT : Nat → TI} {T : Fr} {H : AHeap} {rs r : List ResultVar} {a t l off k : Nat} {ty : TypeId} {cs zs : List AV} {xs : List AV} (h : rs = .cell a t :: r) (hx : look T a = .ptr l off) (hag : (TT t).agg = true) (hH : H.get l = some (.cells ty cs)) (hok : (TT t).ok = true)
    (hs : (TT t).size = k) (hk : off + k ≤ cs.length) (hv : (cs.drop off).take k = zs) (hr : retA TT T H r = some xs) : retA TT T H rs = some (.agg zs :: xs) := by
  subst h; subst hs; subst hv
  simp [retA, hr, hx, hH, hok, hag, hk, wrapA]
theorem retA_one {TT : Nat → TI} {T : Fr} {H : AHeap} {rs r : List ResultVar} {a t l off : Nat} {ty : TypeId} {cs : List AV} {y : AV} {xs : List AV} (h : rs = .cell a t :: r) (hx : look T a = .ptr l off) (hag : (TT t).agg = false) (hs : Nat.beq (TT t).size 1 = true) (hH : H.get l = some (.cells ty cs)) (hok : (TT t).ok = true)
    (hv : cs[off]? = some y) (hr : retA TT T H r = some xs) : retA TT T H rs = some (y :: xs) := by
  subst h
  have hs := Nat.eq_of_beq_eq_true hs
  obtain ⟨hlt, hy⟩ := List.getElem?_eq_some_iff.1 hv
  have : (cs.drop off).take 1 = [y] := by rw [List.drop_eq_getElem_cons hlt, hy]; rfl
  simp only [retA, hx, hH, hok, hag, hs, hr, this, wrapA, Option.map_some, Bool.false_eq_true, if_false]
  rw [if_pos ⟨by omega, trivial, fun _ => trivial⟩]
  rfl

theorem Shift.sub1 {H : AHeap} {x y : AV} (h : SubV x y) : Shift H [x] H [y] := by
  intro ρ I w us hc hx
  refine ⟨I, hc, ⟨hx.1, fun i a u ha hu => ?_⟩, .refl ρ I w H⟩
  cases i with
  | zero =>
    simp only [List.getElem?_cons_zero, Option.some.injEq] at ha
    subst ha
    exact h ρ I u (hx.2 0 x u rfl hu)
  | succ i => simp at ha

theorem RetQ.frz {TT : Nat → TI} {rs : Array ResultVar} {R : AV → AHeap → Prop} {e : Exit} {T : Fr} {H : AHeap} (he : e = .normal ∨ e = .ret) {xs : List AV} {l : Nat} {t : TypeId} {cs : List AV} {y : AV} (hr : retA TT T H rs.toList = some xs)
    (hl : H.get l = some (.cells t cs)) (hf : Frz l cs (tupA xs) y) (h : R y (H.del l)) : RetQ TT rs R e T H :=
  ⟨he, xs, y, H.del l, hr, Shift.freeze hl rfl fun i x z hx hz => by
    cases i with
    | zero => simp only [List.getElem?_cons_zero, Option.some.injEq] at hx hz; subst hx; subst hz; exact hf
    | succ i => simp at hx, h⟩
theorem RetQ.sub {TT : Nat → TI} {rs : Array ResultVar} {R : AV → AHeap → Prop} {e : Exit} {T : Fr} {H : AHeap} (he : e = .normal ∨ e = .ret) {xs : List AV} {y : AV} (hr : retA TT T H rs.toList = some xs) (hs : SubV (tupA xs) y) (h : R y H) : RetQ TT rs R e T H :=
  ⟨he, xs, y, H, hr, Shift.sub1 hs, h⟩

theorem ACalls.quiet_keep {P : Program} {f : FuncId} {args : List AV} {H : AHeap} {y : AV} (h : ACalls P f args H fun r H' => r = y ∧ Keep H H') (hp : Plain y) : ACalls P f args H fun r H' => r = y ∧ H' = H :=
  ACalls.lts fun hlt => (h.quiet fun _ _ q => ⟨q.1 ▸ hp, fun l o hl => (q.2.2 l (hlt l o hl)).trans hl⟩).mono fun _ _ q => ⟨q.2.choose_spec.1, q.1⟩

end Go.Ax

/- The abstract layer, part 15: an obligation of a region that draws, with all it names written out. -/

namespace Go.Ax
set_option linter.unusedSectionVars false
variable [Tabs]

theorem Src.all {H : AHeap} {l n k : Nat} {ty : TypeId} {cs : List AV} (h : H.get l = some (.cells ty cs)) (hl : cs.length = n * k) : Src H k (.sl l 0 n k) n cs := by
  have := Src.sl (off := 0) h (by omega : 0 + n * k ≤ cs.length)
  rwa [List.drop_zero, List.take_of_length_le (by omega)] at this

theorem restr_nil {T : Fr} : restr [] T = [] := rfl
theorem restr_cons {s : Nat} {L : List Nat} {T F : Fr} {a : AV} (h : look T s = a) (hr : restr L T = F) : restr (s :: L) T = (s, a) :: F := by
  subst h; subst hr; rfl

theorem Ob.mk {P : Program} {ops : Array Oper} {n : Nat} {T : Fr} {vs : List AV} {effs : List Nat} {hs : List AHeap} {i k : Nat} (o : Oper) (L : List Nat) (k' : Nat) {F : Fr} (ho : ops[i]? = some o) (hL : o.looksAt ops = L)
    (hF : restr L (frameAt T (ops.toList.take i) vs) = F) (hk : (bif effs.contains i then k + 1 else k) = k') (g : GStep P ops n o F (hs.getD k AHeap.empty) (vs.getD i .any) (hs.getD k' AHeap.empty)) : Ob P ops n T vs effs hs (i, k) := by
  subst hF; subst hL; subst hk
  simp only [Ob, ho]
  exact g
end Go.Ax

/- The abstract layer, part 16: slices of which it is known how much room they have; taking out of a slice in place. -/

namespace Go.Ax
set_option linter.unusedSectionVars false
variable [Tabs]
variable {md : Md}

theorem SubV.slc {l off n c k : Nat} : SubV (.slc l off n c k) (.sl l off n k) := fun _ _ _ h => by
  cases h with | slc h hl hc hm hs => exact .sl h (by omega) hm hs
theorem SubV.sl_slc {l off n k : Nat} : SubV (.sl l off n k) (.slc l off n n k) := fun _ _ _ h => by
  cases h with | sl h hl hm hs => exact .slc h (Nat.le_refl _) hl hm hs

theorem Conc.shrink {ρ : Rho} {I : Imm} {w : World} {H : AHeap} (hc : Conc ρ I w H) {l : Nat} {t : TypeId} {a b : List AV} (hl : H.get l = some (.cells t (a ++ b))) : Conc ρ I w (H.set l (.cells t a)) := by
  refine ⟨fun x y B C h1 h2 h3 h4 he => ?_, hc.dom, fun x o hx => ?_, hc.imm, hc.glob⟩
  · refine hc.inj x y B C h1 h2 ?_ ?_ he
    · by_cases e : x = l
      · subst e; simp [hl]
      · rwa [AHeap.get_set_ne _ _ e] at h3
    · by_cases e : y = l
      · subst e; simp [hl]
      · rwa [AHeap.get_set_ne _ _ e] at h4
  · by_cases e : x = l
    · subst e
      rw [AHeap.get_set_same] at hx
      cases hx
      obtain ⟨B, hB, hI, arr, h1, h2, h3, h4⟩ := hc.obj x _ hl
      refine ⟨B, hB, hI, arr, h1, h2, by simp at h3; omega, fun i z u hz hu => h4 i z u ?_ hu⟩
      rw [List.getElem?_append_left (List.getElem?_eq_some_iff.1 hz).1]
      exact hz
    · rw [AHeap.get_set_ne _ _ e] at hx
      exact hc.obj x o hx
theorem Ev.shrink {ρ : Rho} {I : Imm} {w : World} {H : AHeap} {l : Nat} {o o' : AObj} (hl : H.get l = some o) : Ev ρ I w H ρ I w (H.set l o') :=
  ⟨fun _ _ h => h, fun _ _ h => h, rfl, rfl, rfl, Nat.le_refl _, fun _ _ _ => rfl, fun b hb hn ⟨k, B, h1, h2, h3⟩ => hn ⟨k, B, h1, h2, by
    by_cases e : k = l
    · subst e; simp [hl]
    · rwa [AHeap.get_set_ne _ _ e] at h3⟩, Nat.le_refl _⟩
theorem Shift.heap {H H' : AHeap} (h : H = H') (xs : List AV) : Shift H xs H' xs := h ▸ Shift.refl H xs
theorem Shift.shrink {H : AHeap} {l : Nat} {t : TypeId} {a b : List AV} (xs : List AV) (hl : H.get l = some (.cells t (a ++ b))) : Shift H xs (H.set l (.cells t a)) xs :=
  fun _ I _ _ hc hx => ⟨I, hc.shrink hl, hx, Ev.shrink hl⟩
theorem AHeap.set_set (H : AHeap) (l : Nat) (a b : AObj) : (H.set l a).set l b = H.set l b := by
  refine AHeap.ext (fun k => ?_) rfl
  by_cases e : k = l
  · subst e; rw [AHeap.get_set_same, AHeap.get_set_same]
  · rw [AHeap.get_set_ne _ _ e, AHeap.get_set_ne _ _ e, AHeap.get_set_ne _ _ e]
theorem Shift.take {H H' : AHeap} {l m : Nat} {t : TypeId} {cs a : List AV} (xs : List AV) (hl : H.get l = some (.cells t cs)) (ha : cs.take m = a) (hH : H.set l (.cells t a) = H') : Shift H xs H' xs := by
  subst ha; subst hH
  exact Shift.shrink xs (b := cs.drop m) (by rw [List.take_append_drop]; exact hl)
theorem take_over {cs ys : List AV} {off : Nat} (h : off ≤ cs.length) : (over cs off ys).take off = cs.take off := by
  have : (cs.take off).length = off := by simp; omega
  rw [over, List.append_assoc, List.take_append_of_le_length (by omega), List.take_of_length_le (by omega)]
theorem AW.shrink {P : Program} {c : Code} {Q : APost} {T : Fr} {H : AHeap} {n l : Nat} {t : TypeId} {a b : List AV} (hl : H.get l = some (.cells t (a ++ b))) (h : AW md P c Q T (H.set l (.cells t a)) n) : AW md P c Q T H n :=
  fun ρ I w x hc ht hn hd => wpIn_mono (h ρ I w x (hc.shrink hl) ht hn (hd.ev (Ev.shrink (I := I) hl))) fun _ _ _ f => f.of_ev (Ev.shrink hl)

theorem Src.tail {H : AHeap} {l len j k off m : Nat} {ty : TypeId} {cs : List AV} (h : H.get l = some (.cells ty cs)) (hl : cs.length = len * k) (hj : j ≤ len) (ho : j * k = off) (hm : len - j = m) : Src H k (.sl l off m k) m (cs.drop off) := by
  subst ho; subst hm
  have e : (len - j) * k + j * k = len * k := by rw [← Nat.add_mul]; congr 1; omega
  have := Src.sl (off := j * k) (n := len - j) (k := k) h (by omega)
  rwa [List.take_of_length_le (by simp; omega)] at this

section
variable {P : Program} {o : Oper} {T : Fr} {H : AHeap} {TT : Nat → TI} (hT : TOk P TT)
include hT

theorem AStepD.slice_sl_in {t e : TypeId} {x : Operand} {lo hi : Option Operand} {ll off len k l h m off' : Nat} (ho : o.op = .slice t x lo hi none) (hx : aev T x = .sl ll off len k) (hok : (TT t).ok = true) (hoke : (TT e).ok = true) (hu : (TT t).und = .slice e) (hk : (TT e).size = k)
    (hlo : boundE T lo (0 : Nat) = (l : Int)) (hhi : boundE T hi (len : Nat) = (h : Int)) (h1 : l ≤ h) (h2 : h ≤ len) (hin : l < len ∨ l = 0) (hm : h - l = m) (ho' : off + l * k = off') : AStepD P o T H (.sl ll off' m k) H := by
  subst hm; subst ho'
  have := AStepD.slice_sl hT (H := H) ho hx hok hoke hu hk hlo hhi h1 h2
  rwa [if_neg (by omega)] at this
theorem AStepD.indexAddr_sl' {t e : TypeId} {x y : Operand} {ll off len kk i off' : Nat} {k : IntKind} {j : Int} (ho : o.op = .indexAddr t x y) (hx : aev T x = .sl ll off len kk) (hy : aev T y = .v (.int k j)) (hok : (TT t).ok = true) (hu : (TT t).und = .slice e) (hoke : (TT e).ok = true)
    (hkk : (TT e).size = kk) (hj : j = (i : Int)) (hi : i < len) (hv : off + i * kk = off') : AStepD P o T H (.ptr ll off') H := hv ▸ .indexAddr_sl hT ho hx hy hok hoke hu hkk hj hi
theorem AStepD.indexAddr_arr' {t e : TypeId} {x y : Operand} {ll off n kk i off' : Nat} {k : IntKind} {j : Int} (ho : o.op = .indexAddr t x y) (hx : aev T x = .ptr ll off) (hy : aev T y = .v (.int k j)) (hok : (TT t).ok = true) (hu : (TT t).und = .array n e) (hoke : (TT e).ok = true)
    (hkk : (TT e).size = kk) (hj : j = (i : Int)) (hi : i < n) (hv : off + i * kk = off') : AStepD P o T H (.ptr ll off') H := hv ▸ .indexAddr_arr hT ho hx hy hok hoke hu hkk hj hi

theorem AStepD.clear_slc {t e : TypeId} {x : Operand} {l off len cap k : Nat} {cs zs : List AV} {ty : TypeId} (ho : o.op = .call { callee := .builtin .clear, args := #[x], argTypes := #[t] }) (hx : aev T x = .slc l off len cap k) (hok : (TT t).ok = true) (hu : (TT t).und = .slice e)
    (hoke : (TT e).ok = true) (hk : (TT e).size = k) (hzo : ∀ v ∈ (TT e).zero.cells.toList, v.oneCell' = true) (hH : H.get l = some (.cells ty cs)) (hfit : off + len * k ≤ cs.length) (hzs : over cs off (zerosA (TT e).zero len) = zs) :
    AStepD P o T H .any (H.set l (.cells ty zs)) := by
  subst hk; subst hzs
  refine AStep.of_run fun ρ I w a hc ht => ?_
  have hv := aev_eq ht hx
  have hz := (hT e hoke).zs
  generalize he : a.eval x = u at hv
  cases hv with
  | @slc _ _ _ _ _ c B hB hlc hcc hmc hsz =>
    obtain ⟨B', hB', hIB, arr, harr, hasz, hcl, hacv⟩ := hc.obj l _ hH
    rw [hB] at hB'; cases hB'
    have hzl : (zerosA (TT e).zero len).length = len * (TT e).size := by simp [zerosA, hz]
    by_cases h0 : len = 0
    · subst h0
      have hov : over cs off (zerosA (TT e).zero 0) = cs := by simp [zerosA, over]
      rw [hov]
      have hl' : H.get l = some (.cells ty (cs ++ [])) := by simpa using hH
      refine ⟨_, w, _, ρ, I, _, run_builtin (u := .tuple #[]) (w' := w) ho a w ?_, ⟨rfl, rfl⟩, .any _, hc.shrink hl', Ev.shrink hl'⟩
      rw [show (#[x] : Array Operand).map a.eval = #[a.eval x] from by simp, he]
      simp [builtin, Builtin.clear_, (hT t hok).run_und w, hu]
    · obtain ⟨B2, arr2, hB2, hb2, hfit2, hc', ev⟩ := hc.over (us := (Builtin.zeroCells (TT e).zero.cells len).toList) hH (by simp [Builtin.zeroCells, hzl, hz])
        (fun i z u hz' hu' => by
          simp only [zerosA, List.getElem?_map] at hz'
          simp only [Builtin.zeroCells, Array.toList_map, List.getElem?_map, Array.toList_range] at hu'
          cases hr : (List.range (len * (TT e).zero.cells.size))[i]? with
          | none => rw [hr] at hz'; cases hz'
          | some j =>
            rw [hr] at hz' hu'
            simp only [Option.map_some, Option.some.injEq] at hz' hu'
            subst hz'; subst hu'
            exact .v _) (by omega : off + (zerosA (TT e).zero len).length ≤ cs.length)
      rw [hB] at hB2; cases hB2
      obtain ⟨rfl, _⟩ := harr.uniq hb2
      have hst := harr.run_store (P := P) (o := off) (Builtin.zeroCells (TT e).zero.cells len).toList 0 (by omega) (fun v hv => by
        simp only [Builtin.zeroCells, Array.toList_map, List.mem_map, Array.toList_range, List.mem_range] at hv
        obtain ⟨j, hj, rfl⟩ := hv
        have hpos : 0 < (TT e).zero.cells.size := Nat.pos_of_ne_zero fun h => by rw [h] at hj; simp at hj
        have hm := Nat.mod_lt j hpos
        rw [getElem!_pos (TT e).zero.cells _ hm]
        exact hzo _ (by simp))
      simp only [Nat.add_zero] at hst
      refine ⟨_, _, _, ρ, I, _, run_builtin (u := .tuple #[]) ho a w ?_, ⟨rfl, rfl⟩, .any _, hc', ev⟩
      rw [show (#[x] : Array Operand).map a.eval = #[a.eval x] from by simp, he]
      obtain ⟨m, rfl⟩ : ∃ m, len = m + 1 := ⟨len - 1, by omega⟩
      simp only [builtin, Builtin.clear_, Sem.run_bind, List.getElem?_toArray, List.getElem?_cons_zero, (hT t hok).run_und w, hu, (hT e hoke).run_zero w, Result.andThen, hst, Sem.run_pure]
end
end Go.Ax

/- The abstract layer, part 17: loops over a frame that is spelled out. -/

namespace Go.Ax
set_option linter.unusedSectionVars false
variable [Tabs]
variable {md : Md}

theorem Keep.get {H H' : AHeap} (h : Keep H H') {l : Nat} {o : AObj} (hl : H.get l = some o) (hlt : l < H.next) : H'.get l = some o := (h.2 l hlt).trans hl
theorem take_next {α : Type} (ms : List α) (i : Nat) (h : i < ms.length) : ms.take (i + 1) = ms.take i ++ [ms[i]] := by
  rw [List.take_add_one, List.getElem?_eq_getElem h]
  rfl

theorem SubT.refl (T : Fr) : ∀ {L : List Nat}, SubT T (L.map fun s => (s, look T s))
  | [] => .nil T
  | _ :: _ => .cons_eq rfl (SubT.refl T)
theorem SubT.trans {A B C : Fr} (h : SubT A B) (k : SubT B C) (hk : ∀ p ∈ C, ∃ q ∈ B, q.1 = p.1 ∧ look B p.1 = q.2) : SubT A C := by
  intro p hp ρ I u hu
  obtain ⟨q, hq, h1, h2⟩ := hk p hp
  refine k p hp ρ I u ?_
  rw [h2]
  refine h q hq ρ I u ?_
  rw [h1]
  exact hu

theorem AW.loop_at {P : Program} {c : Code} {Q : APost} {T : Fr} {H : AHeap} {n : Nat} {ι : Type} (F : ι → Fr) (I : ι → AHeap → Prop) (m : ι → Nat) (x0 : ι) (h0 : SubT T (F x0)) (hI : I x0 H)
    (round : ∀ x H, I x H → AW md P c (AThen (fun T' H' => ∃ x', m x' < m x ∧ SubT T' (F x') ∧ I x' H') Q) (F x) H n) : AW md P (.loop c) Q T H n := by
  refine AW.loop (fun k T' H' => ∃ x, m x = k ∧ SubT T' (F x) ∧ I x H') (m x0) ⟨x0, rfl, h0, hI⟩ ?_
  rintro k T' H' ⟨x, rfl, hs, hx⟩
  refine AW.sub hs ((round x H' hx).mono ?_)
  intro e T2 H2 q
  cases e with
  | normal =>
    obtain ⟨x', h1, h2, h3⟩ := q
    exact ⟨m x', h1, x', rfl, h2, h3⟩
  | _ => exact q
end Go.Ax

/- The abstract layer, part 18: bytes and strings. -/

namespace Go.Ax
set_option linter.unusedSectionVars false
variable [Tabs]

theorem freeze_heap {w : World} {b k m : Nat} {arr : Array Value} {t : TypeId} {fz : Nat × Nat} (h : w.heap[b]? = some (.cells arr t fz)) : ∃ fz', (w.freeze ⟨b, k, none⟩ m).heap[b]? = some (.cells arr t fz') := by
  have hb : b < w.heap.size := (Array.getElem?_eq_some_iff.1 h).1
  have he : w.heap[b] = .cells arr t fz := (Array.getElem?_eq_some_iff.1 h).2
  simp only [World.freeze]
  split
  · exact ⟨_, h⟩
  rw [Array.getElem?_eq_getElem (by simpa using hb), Array.getElem_modify_self]
  rw [he]
  exact ⟨_, rfl⟩
theorem freeze_other {w : World} {b k x m : Nat} (h : x ≠ b) : (w.freeze ⟨b, k, none⟩ m).heap[x]? = w.heap[x]? := by
  simp only [World.freeze]
  split
  · rfl
  rw [Array.getElem?_modify, if_neg (fun e => h e.symm)]
theorem freeze_size {w : World} {b k m : Nat} : (w.freeze ⟨b, k, none⟩ m).heap.size = w.heap.size := by
  simp only [World.freeze]
  split
  · rfl
  simp
theorem freeze_rest {w : World} {a : Addr} {m : Nat} : (w.freeze a m).os = w.os ∧ (w.freeze a m).tape = w.tape ∧ (w.freeze a m).output = w.output := by
  simp only [World.freeze]
  split <;> exact ⟨rfl, rfl, rfl⟩

theorem Conc.freeze_mark {ρ : Rho} {I : Imm} {w : World} {H : AHeap} (hc : Conc ρ I w H) {l k m : Nat} {t : TypeId} {cs : List AV} {B : Blk} (hl : H.get l = some (.cells t cs)) (hBl : ρ l = some B) :
    ∃ I' arr, (∀ b a, I b = some a → I' b = some a) ∧ I' B.b = some arr ∧ cs.length ≤ arr.size ∧ (∀ (i : Nat) a u, cs[i]? = some a → arr[i]? = some u → CV ρ I a u) ∧ Conc ρ I' (w.freeze ⟨B.b, k, none⟩ m) (H.del l) ∧ Ev ρ I w H ρ I' (w.freeze ⟨B.b, k, none⟩ m) (H.del l) := by
  obtain ⟨I', B', arr, hB, hI, hIb, hcl, hv, hc', ev⟩ := hc.freeze hl
  rw [hBl] at hB; cases hB
  obtain ⟨t', fz, harr⟩ := hc'.imm _ _ hIb
  refine ⟨I', arr, hI, hIb, hcl, hv, ⟨hc'.inj, hc'.dom, fun x o hx => ?_, fun b a hb => ?_, hc'.glob⟩, ⟨ev.rho, ev.imm, freeze_rest.1.trans ev.os, freeze_rest.2.1.trans ev.tape, freeze_rest.2.2.trans ev.output, by rw [freeze_size]; exact ev.size, fun b hb hn => ?_, ev.own, ev.next⟩⟩
  · obtain ⟨C, hC, hIC, hat⟩ := hc'.obj x o hx
    refine ⟨C, hC, hIC, ObjAt.mono hat (fun _ _ h => h) (fun _ _ h => h) (freeze_other fun e => ?_)⟩
    rw [e, hIb] at hIC
    cases hIC
  · obtain ⟨t2, fz2, h2⟩ := hc'.imm b a hb
    by_cases e : b = B.b
    · subst e
      obtain ⟨fz3, h3⟩ := freeze_heap (k := k) (m := m) h2
      exact ⟨t2, fz3, h3⟩
    · exact ⟨t2, fz2, (freeze_other e).trans h2⟩
  · refine (freeze_other fun e => hn ⟨l, B, hBl, e.symm, by simp [hl]⟩).trans (ev.blk b hb hn)

section
variable {P : Program} {o : Oper} {T : Fr} {H : AHeap} {TT : Nat → TI} (hT : TOk P TT)
include hT

theorem AStepD.str_bytes {t t2 e : TypeId} {x : Operand} {s : ByteArray} (ho : o.op = .convert t t2 x) (hx : aev T x = .v (.string s)) (hok : (TT t).ok = true) (hu : (TT t).und = .string) (hok2 : (TT t2).ok = true) (hu2 : (TT t2).und = .slice e) (hoke : (TT e).ok = true) (hue : (TT e).und = .int .u8)
    (hs1 : (TT e).size = 1) (hmk : Tabs.msp e = true) (hb : s.size ≤ maxLen) : AStepD P o T H (.sl H.next 0 s.size 1) (H.new (.cells e (s.data.toList.map fun b => .v (.int .u8 (b.toNat : Int))))) := by
  refine AStep.of_run fun ρ I w a hc ht => ?_
  have hv := cv_v (aev_eq ht hx)
  have hrun := Lib.run_convert_string_bytes (P := P) w t t2 e s (u := .string) (hu ▸ (hT t hok).und) (hu2 ▸ (hT t2 hok2).und) (hue ▸ (hT e hoke).und)
  obtain ⟨hc', ev⟩ := (hc.drew).new (w' := Lib.bytesWorld w e s) (o := .cells e (s.data.toList.map fun b => .v (.int .u8 (b.toNat : Int)))) (Lib.bytesCells w e s).size (by rw [Lib.bytesWorld_size]; rfl) (fun k hk => Lib.bytesWorld_at_old w e s k hk)
    ⟨_, ⟨_, Lib.bytesWorld_at_new w e s, .inr ⟨Nat.le_refl _, hmk⟩⟩, rfl, by simp [Lib.bytesCells], fun i y u hy hu => by
      have hi : i < s.data.toList.length := by simpa using (List.getElem?_eq_some_iff.1 hy).1
      have hi2 : i < s.data.size := by simpa using hi
      rw [Lib.bytesCells, Array.getElem?_append_left (by simpa using hi2)] at hu
      simp only [List.getElem?_map, List.getElem?_eq_getElem hi, Option.map_some, Option.some.injEq] at hy
      simp only [Array.getElem?_map, Array.getElem?_eq_getElem hi2, Option.map_some, Option.some.injEq] at hu
      subst hy; subst hu
      simp only [Array.getElem_toList]
      exact .v _⟩ rfl rfl rfl
  refine ⟨.slice (some ⟨w.heap.size, 0, none⟩) s.size (grownCap w s.size 0 e), _, _, _, _, _, ?_, ⟨rfl, rfl⟩, ?_, hc', (Ev.drew ρ I w H).trans ev⟩
  · simp only [execOp, ho, Sem.run_bind, hv, hrun, Result.andThen]
    rfl
  · have hge := grownCap_ge w s.size 0 e
    have hle := grownCap_le_maxLen w s.size 0 e hb
    refine .sl (B := ⟨w.heap.size, _⟩) (by simp [Rho.new]; rfl) hge hle ?_
    have hsz : s.data.size = s.size := rfl
    simp [Lib.bytesCells]
    omega

theorem AStepD.convert_bytes_own {t e : TypeId} {x : Operand} {l n : Nat} {ty : TypeId} {cs : List AV} (ho : o.op = .convert t t x) (hx : aev T x = .sl l 0 n 1) (hok : (TT t).ok = true) (hu : (TT t).und = .slice e) (hoke : (TT e).ok = true) (hue : (TT e).und = .int .u8)
    (hH : H.get l = some (.cells ty cs)) (hl : cs.length = n) : AStepD P o T H (.vec n cs) (H.del l) := by
  refine AStep.of_run fun ρ I w a hc ht => ?_
  have hv := aev_eq ht hx
  generalize he : a.eval x = u at hv
  cases hv with
  | @sl _ _ _ _ c B hB hlc hmc hsz =>
    obtain ⟨B', hB', hIB, arr0, harr0, hasz0, hcl0, hacv0⟩ := hc.obj l _ hH
    rw [hB] at hB'; cases hB'
    obtain ⟨I', arr, hI, hIb, hcl, hv, hc', ev⟩ := hc.freeze_mark (k := arr0.size) (m := 1) hH hB
    refine ⟨.slice (some ⟨B.b, 0, none⟩) n c, _, _, ρ, I', _, ?_, ⟨rfl, rfl⟩, ?_, hc', ev⟩
    · have hsh : w.shape? B.b = some (ty, arr0.size) := harr0.shape
      simp [execOp, ho, he, convert, (hT t hok).run_und w, (hT e hoke).run_und w, hu, hue, markStringish, hsh]
    · obtain ⟨t2, fz2, h2⟩ := hc'.imm _ _ hIb
      refine .vec (arr := arr) (vs := arr.toList.take n) hlc hmc hIb (by simp; omega) (fun i u hu => ?_) (fun i z u hz hu => ?_)
      · rw [List.getElem?_take] at hu
        split at hu
        · simpa using hu
        · cases hu
      · rw [List.getElem?_take] at hu
        split at hu
        · exact (hv i z u hz (by simpa using hu)).mono (fun _ _ h => h) hI
        · cases hu

omit hT in
theorem foldl_push (bs : List UInt8) (s : ByteArray) : (bs.map fun x => ((x.toNat : Nat) : Int)).foldl (fun r n => r.push (UInt8.ofNat n.toNat)) s = ⟨s.data ++ bs.toArray⟩ := by
  induction bs generalizing s with
  | nil => simp
  | cons b r ih =>
    simp only [List.map_cons, List.foldl_cons]
    rw [ih]
    simp [ByteArray.push]

omit hT in
theorem cvs_bytes {ρ : Rho} {I : Imm} {bs : List UInt8} {vs : List Value} (hl : vs.length = bs.length) (h : ∀ (i : Nat) a u, (bs.map fun x => AV.v (.int .u8 (x.toNat : Int)))[i]? = some a → vs[i]? = some u → CV ρ I a u) : vs = (bs.map fun x => ((x.toNat : Nat) : Int)).map (Value.int .u8) := by
  apply List.ext_getElem?
  intro i
  by_cases hi : i < bs.length
  · have := h i (.v (.int .u8 (bs[i].toNat : Int))) vs[i] (by simp [hi]) (by simp [hl, hi])
    have := cv_v this
    simp [hl, hi, this]
  · rw [List.getElem?_eq_none (by omega), List.getElem?_eq_none (by simp; omega)]

theorem AStepD.bytes_str {t t2 e : TypeId} {x : Operand} {n : Nat} {bs : List UInt8} {ys : List AV} {z : AV} (ho : o.op = .convert t t2 x) (hx : aev T x = z) (hsrc : Src H 1 z n ys) (hys : ys = bs.map fun x => AV.v (.int .u8 (x.toNat : Int))) (hn : bs.length = n) (hok : (TT t).ok = true) (hok2 : (TT t2).ok = true)
    (hu : (TT t).und = .slice e) (hoke : (TT e).ok = true) (hue : (TT e).und = .int .u8) (hu2 : (TT t2).und = .string) : AStepD P o T H (.v (.string ⟨bs.toArray⟩)) H := by
  refine .of_pure fun ρ I w a hc ht => ⟨_, ?_, .v _⟩
  have hv := aev_eq ht hx
  generalize he : a.eval x = u at hv
  have fin : ∀ (p : Option Addr) (c : Nat), u = .slice p n c → (p = none → n = 0) → (∀ q, p = some q → ∃ vs : List Value, vs.length = bs.length ∧ (∀ (i : Nat) a u, ys[i]? = some a → vs[i]? = some u → CV ρ I a u) ∧ ∀ (j : Nat) v, vs[j]? = some v → w.cell? (q.add j) = some v) →
      (execOp a.eval o).run P w = .ok (.value (.string ⟨bs.toArray⟩)) w := by
    rintro p c rfl hp hq
    have hcv := run_convert_bytes_string (P := P) w t t2 e p n c (hu ▸ (hT t hok).und) (hue ▸ (hT e hoke).und) (hu2 ▸ (hT t2 hok2).und)
    simp only [execOp, ho, Sem.run_bind, he, hcv]
    cases p with
    | none =>
      obtain rfl : bs = [] := by have := hp rfl; cases bs with | nil => rfl | cons => simp at hn; omega
      simp [Conv.bytesToString, Result.andThen]
      rfl
    | some q =>
      obtain ⟨vs, h1, h2, h3⟩ := hq q rfl
      have h4 := run_loadCells_list (P := P) (w := w) q vs h3
      rw [cvs_bytes h1 (hys ▸ h2)] at h4
      have h5 := run_bytesToString (P := P) w q n c (bs.map fun x => ((x.toNat : Nat) : Int)) (by
        rw [List.length_map, List.length_map, hn] at h4
        exact h4)
      rw [h5, foldl_push]
      simp [Result.andThen]
  have hyl : ys.length = bs.length := by simp [hys]
  cases hsrc with
  | vec =>
    cases hv with
    | @vec0 p c => exact fin p c rfl (fun _ => rfl) fun q _ => ⟨[], hyl, by simp, by simp⟩
    | @vec _ c _ b off arr vs hn' hm hI hl hcc hvv =>
      obtain ⟨t', fz, hb⟩ := hc.imm b arr hI
      refine fin _ c rfl (by simp) fun q hq => ⟨vs, by omega, hvv, fun j v hj => ?_⟩
      cases hq
      rw [add_none, cell_of hb]
      exact hcc j v hj
  | @sl l off _ ty cs hH hf =>
    obtain ⟨B, hB, _, hat⟩ := hc.obj l _ hH
    obtain ⟨vs, hvl, hcell, hcv⟩ := obj_stretch hat hf
    cases hv with
    | @sl _ _ _ _ c B' hB' h1 h2 h3 =>
      rw [hB] at hB'; cases hB'
      refine fin _ c rfl (by simp) fun q hq => ⟨vs, by omega, hcv, fun j v hj => ?_⟩
      cases hq
      rw [add_none]
      exact hcell j v hj
  | nil =>
    have := cv_v hv
    subst this
    exact fin _ _ rfl (fun _ => rfl) (by simp)
end
end Go.Ax

/- The abstract layer, part 19: literals whose parts lie one behind the other. -/

namespace Go.Ax
set_option linter.unusedSectionVars false
variable [Tabs]
variable {md : Md}

def seqEnd (place : Nat → Option (Nat × Nat)) : Nat → List (Nat × AV) → Option Nat
  | off, [] => some off
  | off, (i, x) :: r =>
    match place i with
    | none => none
    | some (o, s) => bif Nat.beq o off && Nat.beq x.cells.length s then seqEnd place (off + s) r else none

theorem afill_seq {place : Nat → Option (Nat × Nat)} : ∀ (parts : List (Nat × AV)) (pre zs : List AV), seqEnd place pre.length parts = some (pre.length + zs.length) → afill place (pre ++ zs) parts = some (pre ++ parts.flatMap fun p => p.2.cells)
  | [], pre, zs, h => by
    simp only [seqEnd, Option.some.injEq] at h
    have : zs = [] := List.length_eq_zero_iff.1 (by omega)
    simp [afill, this]
  | (i, x) :: r, pre, zs, h => by
    have mono : ∀ (l : List (Nat × AV)) (o e : Nat), seqEnd place o l = some e → o ≤ e := by
      intro l
      induction l with
      | nil => intro o e h; simp [seqEnd] at h; omega
      | cons p l ih =>
        intro o e h
        obtain ⟨j, y⟩ := p
        simp only [seqEnd] at h
        split at h
        · cases h
        · rename_i o' s hp
          cases hb : (Nat.beq o' o && Nat.beq y.cells.length s) with
          | false => rw [hb] at h; cases h
          | true =>
            rw [hb] at h
            simp only [cond_true] at h
            have := ih _ _ h
            omega
    simp only [seqEnd] at h
    split at h
    · cases h
    · rename_i o s hp
      cases hb : (Nat.beq o pre.length && Nat.beq x.cells.length s) with
      | false => rw [hb] at h; cases h
      | true =>
        rw [hb] at h
        simp only [cond_true] at h
        simp only [Bool.and_eq_true] at hb
        have h1 := Nat.eq_of_beq_eq_true hb.1
        have h2 := Nat.eq_of_beq_eq_true hb.2
        subst h1
        have hle := mono _ _ _ h
        have h3 : x.cells.length ≤ zs.length := by omega
        simp only [afill, hp]
        rw [if_pos ⟨h2, by simp; omega⟩]
        have ho : over (pre ++ zs) pre.length x.cells = (pre ++ x.cells) ++ zs.drop x.cells.length := by
          simp only [over, List.take_left', List.append_assoc]
          rw [List.drop_append]
          simp
        rw [ho, afill_seq r (pre ++ x.cells) (zs.drop x.cells.length) (by
          rw [List.length_append, h2, h, List.length_drop]
          congr 1
          omega)]
        simp

theorem map_n {α β : Type} {f : α → β} : [].map f = [] := rfl
theorem map_p {T : Fr} {i : Nat} {x : Operand} {r : List (Nat × Operand)} {y : AV} {ys : List (Nat × AV)} (h : aev T x = y) (hr : r.map (fun p => (p.1, aev T p.2)) = ys) : ((i, x) :: r).map (fun p => (p.1, aev T p.2)) = (i, y) :: ys := by subst h; subst hr; rfl
theorem cells_v (x : Value) : (AV.v x).cells = [.v x] := rfl
theorem cells_any : AV.any.cells = [.any] := rfl
theorem cells_ptr (l k : Nat) : (AV.ptr l k).cells = [.ptr l k] := rfl
theorem cells_ip (cs : List AV) : (AV.ip cs).cells = [.ip cs] := rfl
theorem cells_sl (l o n k : Nat) : (AV.sl l o n k).cells = [.sl l o n k] := rfl
theorem cells_vec (n : Nat) (cs : List AV) : (AV.vec n cs).cells = [.vec n cs] := rfl
theorem cells_map (l : Nat) : (AV.map l).cells = [.map l] := rfl
theorem cells_func (f : Fn) (cs : List AV) : (AV.func f cs).cells = [.func f cs] := rfl
theorem cells_agg (cs : List AV) : (AV.agg cs).cells = cs := rfl
theorem cells_iface (t : TypeId) (a : AV) : (AV.iface t a).cells = [.iface t a] := rfl

section
variable {P : Program} {o : Oper} {T : Fr} {H : AHeap} {TT : Nat → TI} (hT : TOk P TT)
include hT

theorem AStepD.build_seq {t : TypeId} {parts : Array (Nat × Operand)} {fs : Array Field} {ps : List (Nat × AV)} {cs : List AV} {k : Nat} (ho : o.op = .build t parts) (hok : (TT t).ok = true) (hu : (TT t).und = .struct fs) (hfs : ∀ f ∈ fs.toList, (TT f.type).ok = true)
    (hps : (parts.toList.map fun p => (p.1, aev T p.2)) = ps) (hk : (TT t).size = k) (hseq : seqEnd (placesOf TT fs) 0 ps = some k) (hcs : ps.flatMap (fun p => p.2.cells) = cs) (hone : ∀ x ∈ cs, x.one = true) : AStepD P o T H (.agg cs) H := by
  subst hcs
  refine .build hT ho hok hu hfs ?_ ?_
  · rw [hps]
    have hz : (AV.ofV (TT t).zero).length = k := by simp [AV.ofV, (hT t hok).zs, hk]
    have := afill_seq (place := placesOf TT fs) ps [] (AV.ofV (TT t).zero) (by simpa [hz] using hseq)
    simpa using this
  · rw [hps]
    intro p hp x hx
    exact hone x (List.mem_flatMap.2 ⟨p, hp, hx⟩)
theorem AStepD.build_arr_seq {t e : TypeId} {n : Nat} {parts : Array (Nat × Operand)} {ps : List (Nat × AV)} {cs : List AV} {k : Nat} (ho : o.op = .build t parts) (hok : (TT t).ok = true) (hu : (TT t).und = .array n e) (hoke : (TT e).ok = true)
    (hps : (parts.toList.map fun p => (p.1, aev T p.2)) = ps) (hk : (TT t).size = k) (hseq : seqEnd (fun i => some (i * (TT e).size, (TT e).size)) 0 ps = some k) (hcs : ps.flatMap (fun p => p.2.cells) = cs) (hone : ∀ x ∈ cs, x.one = true) : AStepD P o T H (.agg cs) H := by
  subst hcs
  refine .build_arr hT ho hok hu hoke ?_ ?_
  · rw [hps]
    have hz : (AV.ofV (TT t).zero).length = k := by simp [AV.ofV, (hT t hok).zs, hk]
    have := afill_seq (place := fun i => some (i * (TT e).size, (TT e).size)) ps [] (AV.ofV (TT t).zero) (by simpa [hz] using hseq)
    simpa using this
  · rw [hps]
    intro p hp x hx
    exact hone x (List.mem_flatMap.2 ⟨p, hp, hx⟩)
theorem AStepD.buildSlice_seq {t e : TypeId} {n : Nat} {parts : Array (Nat × Operand)} {ps : List (Nat × AV)} {cs : List AV} {k m : Nat} (ho : o.op = .buildSlice t n parts) (hok : (TT t).ok = true) (hu : (TT t).und = .slice e) (hoke : (TT e).ok = true) (hk : (TT e).size = k)
    (hps : (parts.toList.map fun p => (p.1, aev T p.2)) = ps) (hm : n * k = m) (hbig : m ≤ 16777216) (hn : n ≤ maxLen) (hseq : seqEnd (fun i => some (i * k, k)) 0 ps = some m) (hcs : ps.flatMap (fun p => p.2.cells) = cs) (hone : ∀ x ∈ cs, x.one = true) : AStepD P o T H (.sl H.next 0 n k) (H.new (.cells e cs)) := by
  subst hcs; subst hm
  refine .buildSlice hT ho hok hu hoke hk hbig hn ?_ ?_
  · rw [hps]
    have hz : (zerosA (TT e).zero n).length = n * k := by simp [zerosA, (hT e hoke).zs, hk]
    have := afill_seq (place := fun i => some (i * k, k)) ps [] (zerosA (TT e).zero n) (by simpa [hz] using hseq)
    simpa using this
  · rw [hps]
    intro p hp x hx
    exact hone x (List.mem_flatMap.2 ⟨p, hp, hx⟩)
end

theorem guard_true {b w : Bool} (h : b = w) : (b == w) = true := by subst h; cases b <;> rfl

theorem AL.lts {P : Program} {ops : Array Oper} {Q : APost} {os : List Oper} {T : Fr} {H : AHeap} {n : Nat} (k : (∀ l q, H.get l = some q → l < H.next) → AL md P ops Q os T H n) : AL md P ops Q os T H n :=
  fun ρ0 I0 w0 H0 ρ I w a hev hc ht hn hd => k (fun _ _ h => AHeap.get_lt hc h) ρ0 I0 w0 H0 ρ I w a hev hc ht hn hd
end Go.Ax

/- The abstract layer, part 20: arguments that read as data, as abstract values; a law's call as the row wants it. -/

namespace Go.Ax
set_option linter.unusedSectionVars false
variable [Tabs]

def immOf (w : World) : Imm := fun b => match w.heap[b]? with | some (.cells arr _ _) => some arr | _ => none
def noRho : Rho := fun _ => none

theorem immOf_some {w : World} {b : Nat} {arr : Array Value} (h : immOf w b = some arr) : ∃ t fz, w.heap[b]? = some (.cells arr t fz) := by
  unfold immOf at h
  split at h
  · rename_i a t fz he
    cases h
    exact ⟨t, fz, he⟩
  · cases h

def GlobOK (w : World) : Prop := ∀ g cs, Tabs.tab g = some cs → ∃ arr, immOf w g = some arr ∧ CVs noRho (immOf w) cs arr.toList
theorem conc_empty (w : World) (hg : GlobOK w) : Conc noRho (immOf w) w AHeap.empty :=
  ⟨fun _ _ _ _ h => (by cases h), fun _ _ h => (by cases h), fun _ _ h => (by cases h), fun _ _ h => immOf_some h, hg⟩

theorem calls_of_acalls {P : Program} {f : FuncId} {args : List AV} {x : Value} (h : ACalls P f args AHeap.empty fun r _ => r = .v x) {w : World} {vs : List Value} (hg : GlobOK w) (hv : CVs noRho (immOf w) args vs) :
    Calls P f vs.toArray w fun e w' => e = .returned x ∧ Go.RowKit.Below w.heap.size w w' := by
  refine (h noRho (immOf w) w vs (conc_empty w hg) hv).mono ?_
  rintro e w' ⟨u, r, ρ', I', H', he, rfl, hr, _, ev⟩
  have := cv_v hr
  subst this
  exact ⟨he, ev.os, ev.tape, ev.output, ev.size, fun k hk => ev.blk k hk (by rintro ⟨l, B, hl, _⟩; cases hl)⟩

inductive Sh (TT : Nat → TI) : TypeId → List AV → Prop
  | bool {t : TypeId} (b : Bool) (h : (TT t).und = .bool) : Sh TT t [.v (.bool b)]
  | int {t : TypeId} {k : IntKind} (n : Int) (h : (TT t).und = .int k) (hn : k.min ≤ n ∧ n ≤ k.max) : Sh TT t [.v (.int k n)]
  | str {t : TypeId} (s : ByteArray) (h : (TT t).und = .string) (hs : s.size ≤ maxLen) : Sh TT t [.v (.string s)]
  | slice {t e : TypeId} (rows : List (List AV)) (h : (TT t).und = .slice e) (hl : rows.length ≤ maxLen) (hr : ∀ r ∈ rows, Sh TT e r) (hs : ∀ r ∈ rows, r.length = (TT e).size) : Sh TT t [.vec rows.length rows.flatten]
  | struct {t : TypeId} {fs : Array Field} (rows : List (List AV)) (h : (TT t).und = .struct fs) (hl : rows.length = fs.size) (hr : ∀ (i : Nat) f r, fs[i]? = some f → rows[i]? = some r → Sh TT f.type r) (hs : ∀ (i : Nat) f r, fs[i]? = some f → rows[i]? = some r → r.length = (TT f.type).size) : Sh TT t rows.flatten
  | array {t e : TypeId} {n : Nat} (rows : List (List AV)) (h : (TT t).und = .array n e) (hl : rows.length = n) (hr : ∀ r ∈ rows, Sh TT e r) (hs : ∀ r ∈ rows, r.length = (TT e).size) : Sh TT t rows.flatten

def fieldsSeq (TT : Nat → TI) : Nat → List Field → Option Nat
  | o, [] => some o
  | o, f :: r => bif Nat.beq f.offset o then fieldsSeq TT (o + (TT f.type).size) r else none

def plainT (TT : Nat → TI) : Nat → TypeId → Bool
  | 0, _ => false
  | d + 1, t => (TT t).ok && match (TT t).und with
    | .bool | .string => Nat.beq (TT t).size 1
    | .int _ => Nat.beq (TT t).size 1
    | .slice e => Nat.beq (TT t).size 1 && Nat.blt 0 (TT e).size && (TT e).ok && plainT TT d e
    | .struct fs => (match fieldsSeq TT 0 fs.toList with | some e => Nat.beq e (TT t).size | none => false) && fs.toList.all fun f => plainT TT d f.type
    | .array n e => Nat.beq (n * (TT e).size) (TT t).size && (TT e).ok && plainT TT d e
    | _ => false

theorem plainT_ok {TT : Nat → TI} {d t : Nat} (h : plainT TT d t = true) : (TT t).ok = true := by
  cases d with
  | zero => cases h
  | succ d => simp only [plainT, Bool.and_eq_true] at h; exact h.1

theorem OkT.cellsOf {P : Program} {t : TypeId} {i : TI} (h : OkT P t i) : P.cellsOf t = i.size := by
  obtain ⟨f, hf, _, hs, _⟩ := h.info
  simp [Program.cellsOf, hf, hs]

theorem CVs.nil {ρ : Rho} {I : Imm} : CVs ρ I [] [] := ⟨rfl, fun i a u h => by simp at h⟩
theorem CVs.one {ρ : Rho} {I : Imm} {a : AV} {u : Value} (h : CV ρ I a u) : CVs ρ I [a] [u] := ⟨rfl, fun i x y hx hy => by
  cases i with
  | zero => simp only [List.getElem?_cons_zero, Option.some.injEq] at hx hy; subst hx; subst hy; exact h
  | succ i => simp at hx⟩
theorem CVs.append {ρ : Rho} {I : Imm} {as bs : List AV} {us vs : List Value} (h : CVs ρ I as us) (k : CVs ρ I bs vs) : CVs ρ I (as ++ bs) (us ++ vs) := by
  refine ⟨by simp [h.1, k.1], fun i a u ha hu => ?_⟩
  by_cases hi : i < as.length
  · rw [List.getElem?_append_left hi] at ha
    rw [List.getElem?_append_left (by rw [h.1]; exact hi)] at hu
    exact h.2 i a u ha hu
  · rw [List.getElem?_append_right (by omega)] at ha
    rw [List.getElem?_append_right (by rw [h.1]; omega), h.1] at hu
    exact k.2 _ a u ha hu
theorem CVs.cons {ρ : Rho} {I : Imm} {a : AV} {as : List AV} {u : Value} {us : List Value} (h : CV ρ I a u) (k : CVs ρ I as us) : CVs ρ I (a :: as) (u :: us) := (CVs.one h).append k

theorem flat_get {α : Type} {k : Nat} : ∀ (segs : List (List α)), (∀ s ∈ segs, s.length = k) → ∀ (j : Nat) u, segs.flatten[j]? = some u → ∃ i r seg, j = i * k + r ∧ r < k ∧ segs[i]? = some seg ∧ seg[r]? = some u
  | [], _, j, u, h => by simp at h
  | s :: ss, hk, j, u, h => by
    have hs := hk s (by simp)
    rw [List.flatten_cons] at h
    by_cases hj : j < s.length
    · rw [List.getElem?_append_left hj] at h
      exact ⟨0, j, s, by simp, by omega, rfl, h⟩
    · rw [List.getElem?_append_right (by omega)] at h
      obtain ⟨i, r, seg, h1, h2, h3, h4⟩ := flat_get ss (fun x hx => hk x (by simp [hx])) _ u h
      exact ⟨i + 1, r, seg, by rw [Nat.add_mul]; omega, h2, by simpa using h3, h4⟩

section
variable {H : Type} {enc : TypeId × Value → H} {P : Program} {TT : Nat → TI} (hT : TOk P TT) {w : World} {sp : Nat → Bool} {held : Bool}
include hT

omit hT in
theorem rows_fields {cs : List Value} : ∀ (fs : List Field) (o e : Nat), fieldsSeq TT o fs = some e → e = cs.length → o ≤ cs.length →
    (∀ f ∈ fs, ∃ as, CVs noRho (immOf w) as ((cs.drop f.offset).take (TT f.type).size) ∧ Sh TT f.type as) →
    ∃ rows : List (List AV), rows.length = fs.length ∧ CVs noRho (immOf w) rows.flatten (cs.drop o) ∧ ∀ (i : Nat) f r, fs[i]? = some f → rows[i]? = some r → Sh TT f.type r ∧ r.length = (TT f.type).size
  | [], o, e, h, he, ho, _ => by
    simp only [fieldsSeq, Option.some.injEq] at h
    refine ⟨[], rfl, ?_, by simp⟩
    rw [List.drop_of_length_le (by omega)]
    exact .nil
  | f :: fs, o, e, h, he, ho, hf => by
    have mono : ∀ (l : List Field) (o e : Nat), fieldsSeq TT o l = some e → o ≤ e := by
      intro l
      induction l with
      | nil => intro o e h; simp [fieldsSeq] at h; omega
      | cons g l ih =>
        intro o e h
        simp only [fieldsSeq] at h
        cases hb : Nat.beq g.offset o with
        | false => rw [hb] at h; cases h
        | true => rw [hb] at h; have := ih _ _ h; omega
    simp only [fieldsSeq] at h
    cases hb : Nat.beq f.offset o with
    | false => rw [hb] at h; cases h
    | true =>
      rw [hb] at h
      simp only [cond_true] at h
      have hoff := Nat.eq_of_beq_eq_true hb
      have hle := mono _ _ _ h
      obtain ⟨as, h1, h2⟩ := hf f (by simp)
      obtain ⟨rows, h3, h4, h5⟩ := rows_fields fs _ e h he (by omega) (fun g hg => hf g (by simp [hg]))
      have hal : as.length = (TT f.type).size := by rw [← h1.1]; simp; omega
      refine ⟨as :: rows, by simp [h3], ?_, fun i g r hg hr => ?_⟩
      · have : cs.drop o = (cs.drop f.offset).take (TT f.type).size ++ cs.drop (o + (TT f.type).size) := by
          rw [hoff, ← List.drop_drop, List.take_append_drop]
        rw [this, List.flatten_cons]
        exact h1.append h4
      · cases i with
        | zero =>
          simp only [List.getElem?_cons_zero, Option.some.injEq] at hg hr
          subst hg; subst hr
          exact ⟨h2, hal⟩
        | succ i => exact h5 i g r (by simpa using hg) (by simpa using hr)

omit hT in
theorem rows_array {cs : List Value} {e s : Nat} : ∀ (n o : Nat), cs.length = (o + n) * s →
    (∀ i, i < o + n → ∃ as, CVs noRho (immOf w) as ((cs.drop (i * s)).take s) ∧ Sh TT e as) →
    ∃ rows : List (List AV), rows.length = n ∧ CVs noRho (immOf w) rows.flatten (cs.drop (o * s)) ∧ ∀ r ∈ rows, Sh TT e r ∧ r.length = s
  | 0, o, hl, _ => ⟨[], rfl, by rw [List.drop_of_length_le (by simp at hl; omega)]; exact .nil, by simp⟩
  | n + 1, o, hl, hf => by
    obtain ⟨as, h1, h2⟩ := hf o (by omega)
    obtain ⟨rows, h3, h4, h5⟩ := rows_array n (o + 1) (by rw [hl]; congr 1; omega) (fun i hi => hf i (by omega))
    have e1 : (o + (n + 1)) * s = o * s + (n * s + s) := by rw [Nat.add_mul, Nat.add_mul, Nat.one_mul]
    have hal : as.length = s := by rw [← h1.1]; simp; omega
    refine ⟨as :: rows, by simp [h3], ?_, fun r hr => ?_⟩
    · have : cs.drop (o * s) = (cs.drop (o * s)).take s ++ cs.drop ((o + 1) * s) := by
        rw [Nat.add_mul, Nat.one_mul, ← List.drop_drop, List.take_append_drop]
      rw [this, List.flatten_cons]
      exact h1.append h4
    · rcases List.mem_cons.1 hr with rfl | hr
      · exact ⟨h2, hal⟩
      · exact h5 r hr

theorem sh_of_trod : ∀ (d : Nat) (t : TypeId) (fuel : Nat) (cs : List Value) (x : DataW H × List MemPlace), plainT TT d t = true → DataW.trod enc P w 0 sp held fuel t cs = some x →
    ∃ as, CVs noRho (immOf w) as cs ∧ Sh TT t as
  | 0, _, _, _, _, h, _ => by cases h
  | d + 1, t, fuel, cs, x, h, ht => by
    have hok := plainT_ok h
    have hund := (hT t hok).und
    simp only [plainT, Bool.and_eq_true] at h
    obtain ⟨_, h⟩ := h
    split at h
    · rename_i hu
      rw [hu] at hund
      obtain ⟨b, rfl, _⟩ := DataW.trod_bool hund ht
      exact ⟨_, .one (.v _), .bool b hu⟩
    · rename_i hu
      rw [hu] at hund
      obtain ⟨s, rfl, _, hs⟩ := DataW.trod_string hund ht
      exact ⟨_, .one (.v _), .str s hu hs⟩
    · rename_i k hu
      rw [hu] at hund
      obtain ⟨n, rfl, _, hn⟩ := DataW.trod_int hund ht
      simp only [Lit.wf, Bool.and_eq_true, decide_eq_true_eq] at hn
      exact ⟨_, .one (.v _), .int n hu hn⟩
    · rename_i e hu
      rw [hu] at hund
      simp only [Bool.and_eq_true] at h
      obtain ⟨⟨⟨_, hpos⟩, hoke⟩, hp⟩ := h
      have hpos : 0 < (TT e).size := Eq.mp Nat.blt_eq hpos
      have hce := (hT e hoke).cellsOf
      rcases DataW.trod_slice hund ht with ⟨rfl, _⟩ | ⟨a, len, cap, elems, rest, n, _, rfl, _, _, hlc, hcm, hel, hread, _⟩
      · exact ⟨[.vec 0 []], .one .vec0, by simpa using Sh.slice (TT := TT) [] hu (by simp) (by simp) (by simp)⟩
      · have key : ∀ i, i < len → ∃ seg as, w.cells? 0 (a.add (i * (TT e).size)) (TT e).size = some seg ∧ CVs noRho (immOf w) as seg ∧ Sh TT e as := by
          intro i hi
          have := hread i hi
          rw [hce] at this
          have hs : ∃ y, elems[i]? = some y := ⟨elems[i], by simp [hel, hi]⟩
          obtain ⟨y, hy⟩ := hs
          rw [hy] at this
          obtain ⟨seg, h1, h2⟩ := Option.bind_eq_some_iff.1 this
          obtain ⟨as, h3, h4⟩ := sh_of_trod d e n seg y hp h2
          exact ⟨seg, as, h1, h3, h4⟩
        have build : ∀ m, m ≤ len → ∃ (rows : List (List AV)) (segs : List (List Value)), rows.length = m ∧ segs.length = m ∧ CVs noRho (immOf w) rows.flatten segs.flatten ∧ (∀ r ∈ rows, Sh TT e r ∧ r.length = (TT e).size) ∧ (∀ s ∈ segs, s.length = (TT e).size) ∧
            ∀ (i : Nat) s, segs[i]? = some s → w.cells? 0 (a.add (i * (TT e).size)) (TT e).size = some s := by
          intro m
          induction m with
          | zero => exact fun _ => ⟨[], [], rfl, rfl, .nil, by simp, by simp, by simp⟩
          | succ m ih =>
            intro hm
            obtain ⟨rows, segs, h1, h2, h3, h4, h5, h6⟩ := ih (by omega)
            obtain ⟨seg, as, k1, k2, k3⟩ := key m (by omega)
            obtain ⟨_, hsl, _⟩ := World.cells?_some k1
            refine ⟨rows ++ [as], segs ++ [seg], by simp [h1], by simp [h2], ?_, ?_, ?_, ?_⟩
            · simpa using h3.append k2
            · intro r hr
              rcases List.mem_append.1 hr with hr | hr
              · exact h4 r hr
              · simp only [List.mem_singleton] at hr; subst hr
                exact ⟨k3, by rw [← k2.1, hsl]⟩
            · intro s hs
              rcases List.mem_append.1 hs with hs | hs
              · exact h5 s hs
              · simp only [List.mem_singleton] at hs; subst hs; exact hsl
            · intro i s hs
              by_cases hi : i < segs.length
              · rw [List.getElem?_append_left hi] at hs; exact h6 i s hs
              · rw [List.getElem?_append_right (by omega)] at hs
                have : i - segs.length = 0 := by
                  have := (List.getElem?_eq_some_iff.1 hs).1
                  simp at this; omega
                rw [this] at hs
                simp only [List.getElem?_cons_zero, Option.some.injEq] at hs
                subst hs
                have : i = m := by omega
                subst this
                exact k1
        obtain ⟨rows, segs, h1, h2, h3, h4, h5, h6⟩ := build len (Nat.le_refl _)
        refine ⟨[.vec rows.length rows.flatten], .one ?_, .slice rows hu (by omega) (fun r hr => (h4 r hr).1) (fun r hr => (h4 r hr).2)⟩
        rw [h1]
        by_cases h0 : len = 0
        · subst h0
          have : rows = [] := List.length_eq_zero_iff.1 h1
          subst this
          exact .vec0
        · obtain ⟨s0, hs0⟩ : ∃ s, segs[0]? = some s := ⟨segs[0]'(by omega), List.getElem?_eq_getElem _⟩
          obtain ⟨_, hl0, hc0⟩ := World.cells?_some (h6 0 s0 hs0)
          have hget : ∀ (i r : Nat) seg u, segs[i]? = some seg → seg[r]? = some u → w.cell? ((a.add (i * (TT e).size)).add r) = some u := by
            intro i r seg u hs hr
            obtain ⟨_, hl, hc⟩ := World.cells?_some (h6 i seg hs)
            rw [hc r (by have := (List.getElem?_eq_some_iff.1 hr).1; omega), hr]
          have h00 := hget 0 0 s0 s0[0] hs0 (by simp [hl0, hpos])
          obtain ⟨b, off, spot⟩ := a
          simp only [Nat.zero_mul, Addr.add, if_true] at h00
          unfold World.cell? at h00
          split at h00
          · rename_i arr ty fz hb
            split at h00
            · cases h00
            · rename_i hspot
              have : spot = none := by cases spot with | none => rfl | some _ => simp at hspot
              subst this
              have hI : immOf w b = some arr := by simp [immOf, hb]
              refine .vec (vs := segs.flatten) hlc hcm hI h3.1 (fun j u hu => ?_) h3.2
              obtain ⟨i, r, seg, hj, hr, hs, hu'⟩ := flat_get segs h5 j u hu
              have := hget i r seg u hs hu'
              rw [add_none, add_none, cell_of hb] at this
              rw [hj, ← Nat.add_assoc]
              exact this
          · cases h00
    · rename_i fs hu
      rw [hu] at hund
      simp only [Bool.and_eq_true, List.all_eq_true] at h
      obtain ⟨hsq, hall⟩ := h
      obtain ⟨xs, n, _, _, hcl, hxl, hfs⟩ := DataW.trod_struct hund ht
      split at hsq
      · rename_i e hfe
        have he := Nat.eq_of_beq_eq_true hsq
        rw [(hT t hok).cellsOf] at hcl
        obtain ⟨rows, h1, h2, h3⟩ := rows_fields (w := w) (cs := cs) fs.toList 0 e hfe (by omega) (Nat.zero_le _) (fun f hf => by
          obtain ⟨i, hi⟩ := List.mem_iff_getElem?.1 hf
          have hi' : fs[i]? = some f := by simpa using hi
          have hil := (Array.getElem?_eq_some_iff.1 hi').1
          have := hfs i f hi'
          have hpf := hall f hf
          rw [(hT f.type (plainT_ok hpf)).cellsOf, List.getElem?_eq_getElem (by omega : i < xs.length)] at this
          exact sh_of_trod d f.type n _ _ hpf this)
        exact ⟨rows.flatten, by simpa using h2, .struct rows hu (by simpa using h1) (fun i f r hf hr => (h3 i f r (by simpa using hf) hr).1) (fun i f r hf hr => (h3 i f r (by simpa using hf) hr).2)⟩
      · cases hsq
    · rename_i n e hu
      rw [hu] at hund
      simp only [Bool.and_eq_true] at h
      obtain ⟨⟨hsz, hoke⟩, hp⟩ := h
      have hsz := Nat.eq_of_beq_eq_true hsz
      obtain ⟨xs, m, _, _, hcl, hxl, hfs⟩ := DataW.trod_array hund ht
      rw [(hT t hok).cellsOf] at hcl
      obtain ⟨rows, h1, h2, h3⟩ := rows_array (w := w) (cs := cs) (e := e) (s := (TT e).size) n 0 (by rw [Nat.zero_add]; omega) (fun i hi => by
        have := hfs i (by omega)
        rw [(hT e hoke).cellsOf, List.getElem?_eq_getElem (by omega : i < xs.length)] at this
        exact sh_of_trod d e m _ _ hp this)
      exact ⟨rows.flatten, by simpa using h2, .array rows hu h1 (fun r hr => (h3 r hr).1) (fun r hr => (h3 r hr).2)⟩
    · cases h
end
end Go.Ax

/- The abstract layer, part 21: from a law's abstract call to what its row asks. -/

namespace Go.Ax
set_option linter.unusedSectionVars false
variable [Tabs]
open Go.RowKit Go.ChangeShapes Go.WideShapes

def ShV (TT : Nat → TI) (t : TypeId) (a : AV) : Prop := if (TT t).agg then ∃ cs, a = .agg cs ∧ Sh TT t cs else Sh TT t [a]

section
variable {H : Type} {enc : TypeId × Value → H} {P : Program} {TT : Nat → TI} (hT : TOk P TT)
include hT

theorem arg_cv {d : Nat} {t : TypeId} {v : Value} {dat : DataW H} {ps : List MemPlace} {W : World} {base : Nat} {sp : Nat → Bool} (hp : plainT TT d t = true) (hval : Value.okWide P W .any base t v) (h : DataW.Trod enc P W 0 sp true t v dat ps) :
    ∃ a, CV noRho (immOf W) a v ∧ ShV TT t a := by
  obtain ⟨fuel, hf⟩ := h
  obtain ⟨as, hcv, hsh⟩ := sh_of_trod hT d t fuel _ _ hp hf
  have hok := plainT_ok hp
  have hund := (hT t hok).und
  have hag := (hT t hok).agg
  have one : ∀ x : AV, as = [x] → v.cells.toList = [v] → (TT t).agg = false → ∃ a, CV noRho (immOf W) a v ∧ ShV TT t a := by
    rintro x rfl hc ha
    rw [hc] at hcv
    exact ⟨x, hcv.2 0 x v rfl rfl, by simpa [ShV, ha] using hsh⟩
  have hlen := hcv.1
  cases d with
  | zero => cases hp
  | succ d =>
    simp only [plainT, Bool.and_eq_true] at hp
    obtain ⟨_, hp⟩ := hp
    split at hp
    · rename_i hu
      rw [hu] at hund hag
      obtain ⟨b, rfl⟩ := okWide_bool hund hval
      obtain ⟨x, rfl⟩ := List.length_eq_one_iff.1 (show as.length = 1 by simpa [Value.cells] using hlen.symm)
      exact one x rfl rfl hag
    · rename_i hu
      rw [hu] at hund hag
      obtain ⟨b, rfl⟩ := okWide_string hund hval
      obtain ⟨x, rfl⟩ := List.length_eq_one_iff.1 (show as.length = 1 by simpa [Value.cells] using hlen.symm)
      exact one x rfl rfl hag
    · rename_i k hu
      rw [hu] at hund hag
      obtain ⟨b, rfl⟩ := okWide_int hund hval
      obtain ⟨x, rfl⟩ := List.length_eq_one_iff.1 (show as.length = 1 by simpa [Value.cells] using hlen.symm)
      exact one x rfl rfl hag
    · rename_i e hu
      rw [hu] at hund hag
      obtain ⟨a, len, cap, rfl⟩ := okWide_slice hund hval
      obtain ⟨x, rfl⟩ := List.length_eq_one_iff.1 (show as.length = 1 by simpa [Value.cells] using hlen.symm)
      exact one x rfl rfl hag
    · rename_i fs hu
      rw [hu] at hund hag
      simp only [Value.okWide, hund] at hval
      obtain ⟨cs, rfl, _⟩ := hval
      exact ⟨.agg as, by simpa [Value.cells] using CV.agg hcv.1 hcv.2, by simp only [ShV, hag]; exact ⟨as, rfl, hsh⟩⟩
    · rename_i n e hu
      rw [hu] at hund hag
      simp only [Value.okWide, hund] at hval
      obtain ⟨cs, rfl, _⟩ := hval
      exact ⟨.agg as, by simpa [Value.cells] using CV.agg hcv.1 hcv.2, by simp only [ShV, hag]; exact ⟨as, rfl, hsh⟩⟩
    · cases hp

theorem args_cv {d : Nat} {W : World} {base : Nat} {sp : Nat → Bool} : ∀ (ts : List TypeId) (vs : List Value) (ds : List (DataW H)) (ps : List MemPlace), DataW.TrodAll enc P W 0 sp true ts vs ds ps →
    (∀ (i : Nat) t v, ts[i]? = some t → vs[i]? = some v → Value.okWide P W .any base t v) → (∀ t ∈ ts, plainT TT d t = true) →
    ds.length = ts.length ∧ ∃ as, as.length = ts.length ∧ CVs noRho (immOf W) as vs ∧ ∀ (i : Nat) t x, ts[i]? = some t → as[i]? = some x → ShV TT t x
  | [], [], [], _, _, _, _ => ⟨rfl, [], rfl, .nil, by simp⟩
  | t :: ts, v :: vs, dat :: ds, ps, h, hv, hp => by
    obtain ⟨p, q, h1, h2, _⟩ := h
    obtain ⟨a, ha, hs⟩ := arg_cv hT (hp t (by simp)) (hv 0 t v rfl rfl) h1
    obtain ⟨hl, as, h3, h4, h5⟩ := args_cv ts vs ds q h2 (fun i t v hi hj => hv (i + 1) t v (by simpa using hi) (by simpa using hj)) (fun t ht => hp t (by simp [ht]))
    refine ⟨by simp [hl], a :: as, by simp [h3], .cons ha h4, fun i t x hi hx => ?_⟩
    cases i with
    | zero => simp only [List.getElem?_cons_zero, Option.some.injEq] at hi hx; subst hi; subst hx; exact hs
    | succ i => exact h5 i t x (by simpa using hi) (by simpa using hx)
  | [], _ :: _, _, _, h, _, _ => by cases h
  | [], [], _ :: _, _, h, _, _ => by cases h
  | _ :: _, [], _, _, h, _, _ => by cases h
  | _ :: _, _ :: _, [], _, h, _, _ => by cases h

omit hT in
theorem trodAll_below (hl : laidOutB P = true) {W W' : World} (hb : Below W.heap.size W W') : ∀ (ts : List TypeId) (vs : List Value) (ds : List (DataW H)) (ps : List MemPlace), DataW.TrodAll enc P W 0 (fun _ => true) true ts vs ds ps →
    (∀ t ∈ ts, P.readableRec t = true ∧ t < P.types.size) → (∀ x ∈ ps, x.block < W.heap.size) → DataW.TrodAll enc P W' 0 (fun b => decide (b < W.heap.size)) true ts vs ds ps
  | [], [], [], _, h, _, _ => h
  | t :: ts, v :: vs, dat :: ds, ps, h, hp, hlt => by
    obtain ⟨p, q, h1, h2, rfl⟩ := h
    exact ⟨p, q, Below.trod hl (hp t (by simp)).1 (hp t (by simp)).2 h1 hb (fun x hx => hlt x (by simp [hx])), trodAll_below hl hb ts vs ds q h2 (fun t ht => hp t (by simp [ht])) (fun x hx => hlt x (by simp [hx])), rfl⟩
  | [], _ :: _, _, _, h, _, _ => by cases h
  | [], [], _ :: _, _, h, _, _ => by cases h
  | _ :: _, [], _, _, h, _, _ => by cases h
  | _ :: _, _ :: _, [], _, h, _, _ => by cases h

theorem law_contract (hl : laidOutB P = true) {f : FuncId} {fn : Func} {s : ChangeSpec} {ts : List TypeId} (d : Nat) (hts : fn.params.toList = ts) (hplain : (ts.all fun t => plainT TT d t && P.readableRec t && Nat.blt t P.types.size) = true)
    {tb : TypeId} (hrt : fn.resultTypes = #[tb]) (hb : P.underlying tb = some .bool) (hvars : s.vars = []) (hs : ∀ ds : List (DataW H), ds.length = ts.length → (s.fn H ds).results = [.lit (.bool true)] ∧ (s.fn H ds).args = ds ∧ (s.fn H ds).vars = [])
    (law : ∀ as : List AV, as.length = ts.length → (∀ (i : Nat) t x, ts[i]? = some t → as[i]? = some x → ShV TT t x) → ACalls P f as AHeap.empty fun r _ => r = .v (.bool true))
    {W : World} {base : Nat} {args : Array Value} {ds gs : List (DataW H)} {before : List MemPlace} (hval : ∀ (j : Nat) t v, fn.params[j]? = some t → args[j]? = some v → Value.okWide P W .any base t v)
    (hW : DataW.Whole enc P fn.params.toList s.vars false W args.toList ds gs before) (hg : GlobOK W := by exact fun _ _ h => by cases h) :
    Calls P f args W fun e W' => ∃ v, e = .returned v ∧ s.post enc P fn false true false false W args v W' := by
  subst hts
  have hW' := hW
  obtain ⟨p, q, hA, hV, rfl, hfz, hnd⟩ := hW
  rw [hvars] at hV
  have hgs : gs = [] ∧ q = [] := by
    cases gs with
    | nil => exact ⟨rfl, hV⟩
    | cons => cases hV
  obtain ⟨rfl, rfl⟩ := hgs
  have hpl : ∀ t ∈ fn.params.toList, plainT TT d t = true ∧ P.readableRec t = true ∧ t < P.types.size := by
    intro t ht
    have := List.all_eq_true.1 hplain t ht
    simp only [Bool.and_eq_true] at this
    exact ⟨this.1.1, this.1.2, Eq.mp Nat.blt_eq this.2⟩
  obtain ⟨hdl, as, h1, h2, h3⟩ := args_cv hT (d := d) (base := base) _ _ _ _ hA (fun i t v hi hj => hval i t v (by simpa using hi) (by simpa using hj)) (fun t ht => (hpl t ht).1)
  have hc := calls_of_acalls (law as h1 h3) hg h2
  simp only [Array.toArray_toList] at hc
  refine hc.mono fun e W' ⟨he, hbel⟩ => ?_
  subst he
  obtain ⟨r1, r2, r3⟩ := hs ds hdl
  have hlt : ∀ x ∈ p, x.block < W.heap.size := fun x hx => by simpa using hW'.lt x (by simpa using hx)
  refine ⟨_, rfl, ds, [], p ++ [], [], p, [], hW', ?_, ?_, ?_, hbel.frame _, fun h => by cases h⟩
  · rw [List.append_nil, r1, hrt]
    exact trodAll_mk1 (shut_bool hb true)
  · rw [List.append_nil, r2]
    exact trodAll_below hl hbel _ _ _ _ hA (fun t ht => (hpl t ht).2) hlt
  · rw [List.append_nil, r3, hvars]
    rfl
end
end Go.Ax

/- The abstract layer, part 22: what the cells of plain data are, type by type. -/

namespace Go.Ax
set_option linter.unusedSectionVars false
variable [Tabs]

theorem one_cells {y : AV} (h : y.one = true) : y.cells = [y] := by cases y <;> first | rfl | cases h

section
variable {TT : Nat → TI} {t : TypeId} {as : List AV}

theorem Sh.int_inv {k : IntKind} (h : Sh TT t as) (hu : (TT t).und = .int k) : ∃ n, as = [.v (.int k n)] ∧ k.min ≤ n ∧ n ≤ k.max := by
  cases h with
  | int n h hn => rw [hu] at h; cases h; exact ⟨n, rfl, hn⟩
  | bool _ h | str _ h | slice _ h | struct _ h | array _ h => rw [hu] at h; cases h
theorem Sh.slice_inv {e : TypeId} (h : Sh TT t as) (hu : (TT t).und = .slice e) : ∃ rows : List (List AV), as = [.vec rows.length rows.flatten] ∧ rows.length ≤ maxLen ∧ (∀ r ∈ rows, Sh TT e r) ∧ ∀ r ∈ rows, r.length = (TT e).size := by
  cases h with
  | slice rows h hl hr hs => rw [hu] at h; cases h; exact ⟨rows, rfl, hl, hr, hs⟩
  | int _ h | bool _ h | str _ h | struct _ h | array _ h => rw [hu] at h; cases h
theorem Sh.struct_inv {fs : Array Field} (h : Sh TT t as) (hu : (TT t).und = .struct fs) : ∃ rows : List (List AV), as = rows.flatten ∧ rows.length = fs.size ∧ (∀ (i : Nat) f r, fs[i]? = some f → rows[i]? = some r → Sh TT f.type r) ∧ ∀ (i : Nat) f r, fs[i]? = some f → rows[i]? = some r → r.length = (TT f.type).size := by
  cases h with
  | struct rows h hl hr hs => rw [hu] at h; cases h; exact ⟨rows, rfl, hl, hr, hs⟩
  | int _ h | bool _ h | str _ h | slice _ h | array _ h => rw [hu] at h; cases h
theorem Sh.array_inv {n : Nat} {e : TypeId} (h : Sh TT t as) (hu : (TT t).und = .array n e) : ∃ rows : List (List AV), as = rows.flatten ∧ rows.length = n ∧ (∀ r ∈ rows, Sh TT e r) ∧ ∀ r ∈ rows, r.length = (TT e).size := by
  cases h with
  | array rows h hl hr hs => rw [hu] at h; cases h; exact ⟨rows, rfl, hl, hr, hs⟩
  | int _ h | bool _ h | str _ h | slice _ h | struct _ h => rw [hu] at h; cases h

theorem ShV.one {a : AV} (h : ShV TT t a) (ha : (TT t).agg = false) : Sh TT t [a] := by simpa [ShV, ha] using h
theorem ShV.cells {a : AV} (h : ShV TT t a) (ha : (TT t).agg = true) : ∃ cs, a = .agg cs ∧ Sh TT t cs := by simpa [ShV, ha] using h

theorem rows_of {α : Type} {p : List AV → Prop} {g : α → List AV} (hg : ∀ r, p r → ∃ x, r = g x) : ∀ rows : List (List AV), (∀ r ∈ rows, p r) → ∃ xs : List α, xs.length = rows.length ∧ rows = xs.map g
  | [], _ => ⟨[], rfl, rfl⟩
  | r :: rs, h => by
    obtain ⟨x, rfl⟩ := hg r (h r (by simp))
    obtain ⟨xs, h1, h2⟩ := rows_of hg rs (fun q hq => h q (by simp [hq]))
    exact ⟨x :: xs, by simp [h1], by rw [h2]; rfl⟩

end
end Go.Ax

/- The abstract layer, part 23: an operation whose new block is frozen at once, so that it leaves the heap as it was. -/

namespace Go.Ax
set_option linter.unusedSectionVars false
variable [Tabs]
variable {md : Md}

theorem Conc.back {ρ ρ' : Rho} {I I' : Imm} {w w' : World} {H H' : AHeap} (hc : Conc ρ I w H) (hc' : Conc ρ' I' w' H') (ev : Ev ρ I w H ρ' I' w' H') (hs : ∀ l o, H.get l = some o → H'.get l = some o) : Conc ρ I' w' H ∧ Ev ρ I w H ρ I' w' H := by
  refine ⟨⟨hc.inj, hc.dom, ?_, hc'.imm, hc.globs (fun _ _ h => h) ev.imm⟩, ⟨fun _ _ h => h, ev.imm, ev.os, ev.tape, ev.output, ev.size, ev.blk, fun b _ h => h, Nat.le_refl _⟩⟩
  intro l o hl
  obtain ⟨B, hB, _, hat⟩ := hc.obj l o hl
  obtain ⟨B', hB', hI', hat'⟩ := hc'.obj l o (hs l o hl)
  have := ev.rho l B hB
  rw [hB'] at this
  cases this
  refine ⟨B, hB, hI', ?_⟩
  cases o with
  | cells t cs =>
    obtain ⟨arr, h1, h2, h3, h4⟩ := hat'
    obtain ⟨arr0, g1, g2, g3, g4⟩ := hat
    refine ⟨arr, h1, h2, h3, fun i a u ha hu => ?_⟩
    have hi : i < arr0.size := Nat.lt_of_lt_of_le (List.getElem?_eq_some_iff.1 ha).1 g3
    exact (g4 i a arr0[i] ha (by simp [hi])).restrict ev.rho (h4 i a u ha hu)
  | map es =>
    obtain ⟨ents, clock, h1, h2, h3, h4, h5⟩ := hat'
    obtain ⟨ents0, clock0, g1, g2, g3, g4, g5⟩ := hat
    refine ⟨ents, clock, h1, h2, fun i e en he hn => ⟨(h3 i e en he hn).1, ?_⟩, h4, h5⟩
    have hi : i < ents0.size := by rw [g2]; exact (List.getElem?_eq_some_iff.1 he).1
    exact (g3 i e ents0[i] he (by simp [hi])).2.restrict ev.rho (h3 i e en he hn).2
  | obj o => exact hat'
  | lp rec cs =>
    exact ⟨hat'.1, fun i a ha => (hat.2 i a ha).restrict ev.rho (hat'.2 i a ha)⟩
  | smap es st clock =>
    obtain ⟨ents, h1, h2, h3, h4⟩ := hat'
    obtain ⟨ents0, g1, g2, g3, g4⟩ := hat
    refine ⟨ents, h1, h2, fun i e en he hn => ⟨(h3 i e en he hn).1, ?_⟩, h4⟩
    have hi : i < ents0.size := by rw [g2]; exact (List.getElem?_eq_some_iff.1 he).1
    exact (g3 i e ents0[i] he (by simp [hi])).2.restrict ev.rho (h3 i e en he hn).2
  | iter l since seen last =>
    obtain ⟨B1, h1, h2⟩ := hat'
    obtain ⟨B0, g1, g2⟩ := hat
    have := ev.rho _ _ g1
    rw [h1] at this
    cases this
    exact ⟨B1, g1, h2⟩

theorem AStepD.frz_quiet {P : Program} {o : Oper} {T : Fr} {H H1 : AHeap} {x y : AV} {l : Nat} {t : TypeId} {cs : List AV} (h : AStepD P o T H x H1) (hl : H1.get l = some (.cells t cs)) (hf : Frz l cs x y) (hp : Plain y) (hk : Keep H (H1.del l)) : AStepD P o T H y H := by
  intro ρ I w a hc ht Q
  refine Oper.wpIn_mono ?_ (h ρ I w a hc ht Q)
  rintro a' w' ⟨u, z, ρ', I', H', ha, ⟨rfl, rfl⟩, hz, hc', ev⟩
  obtain ⟨I2, B, arr, hB, hI, hIb, hcl, hv, hc2, ev2⟩ := hc'.freeze hl
  have hy := (hf.cv hB hI hIb hcl hv hz).plain (ρ' := ρ) hp
  obtain ⟨hc3, ev3⟩ := hc.back hc2 (ev.trans ev2) (fun k q hq => (hk.2 k (AHeap.get_lt hc hq)).trans hq)
  exact ⟨u, y, ρ, I2, H, ha, ⟨rfl, rfl⟩, hy, hc3, ev3⟩

theorem IsSl.le {ρ : Rho} {I : Imm} {x : AV} {k : Nat} {u : Value} (h : IsSl x k) (hx : CV ρ I x u) : k ≤ maxLen := by
  cases h with
  | nil => exact Nat.zero_le _
  | sl => cases hx with | sl h hl hm hs => exact Nat.le_trans hl hm
  | slc => cases hx with | slc h hl hc hm hs => exact Nat.le_trans (Nat.le_trans hl hc) hm
  | slx => cases hx with | slx h hl hm hs => exact Nat.le_trans hl hm
  | vec => cases hx with
    | vec0 => exact Nat.zero_le _
    | vec hn hm => exact Nat.le_trans hn hm
theorem AW.len {P : Program} {c : Code} {Q : APost} {T : Fr} {H : AHeap} {n s k : Nat} {x : AV} (hx : look T s = x) (hs : IsSl x k) (h : k ≤ maxLen → AW md P c Q T H n) : AW md P c Q T H n :=
  fun ρ I w a hc ht hn hd => h (hs.le (hx ▸ ht s)) ρ I w a hc ht hn hd
/- Short names for what every walk says. -/
theorem z1 {α : Type} {a d : α} {l : List α} : (a :: l).getD 0 d = a := rfl
theorem z2 {α : Type} {a d : α} {l : List α} {i : Nat} : (a :: l).getD (i + 1) d = l.getD i d := List.getD_cons_succ
theorem z3 (H : AHeap) {k l : Nat} (o : AObj) (h : k = l) : (H.set l o).get k = some o := AHeap.get_set_eq H o h
theorem z4 (H : AHeap) {l k : Nat} (o : AObj) (h : k ≠ l) : (H.set l o).get k = H.get k := AHeap.get_set_ne H o h
theorem z5 (H : AHeap) {k : Nat} (o : AObj) (h : k = H.next) : (H.new o).get k = some o := AHeap.get_new_eq H o h
theorem z6 (H : AHeap) {k : Nat} (o : AObj) (h : k ≠ H.next) : (H.new o).get k = H.get k := AHeap.get_new_ne H o h
theorem z7 (H : AHeap) {k l : Nat} (h : k = l) : (H.del l).get k = none := AHeap.get_del_eq H h
theorem z8 (H : AHeap) {l k : Nat} (h : k ≠ l) : (H.del l).get k = H.get k := AHeap.get_del_ne H h
theorem za (H : AHeap) (l : Nat) (o : AObj) : (H.set l o).next = H.next := rfl
theorem zb (H : AHeap) (l : Nat) : (H.del l).next = H.next := rfl
theorem zc (H : AHeap) (o : AObj) : (H.new o).next = H.next + 1 := rfl
end Go.Ax

/- The abstract layer, part 24: slices whose room is known, copies, append of zeros, functions of the library that have no body. -/

namespace Go.Ax
set_option linter.unusedSectionVars false
variable [Tabs]
variable {md : Md}

theorem Conc.widen {ρ : Rho} {I : Imm} {w : World} {H : AHeap} (hc : Conc ρ I w H) {l : Nat} {t : TypeId} {cs : List AV} (hl : H.get l = some (.cells t cs)) {B : Blk} (hB : ρ l = some B) {n : Nat} (hn : cs.length + n ≤ B.sz) :
    Conc ρ I w (H.set l (.cells t (cs ++ List.replicate n .any))) := by
  refine ⟨fun x y B C h1 h2 h3 h4 he => ?_, hc.dom, fun x o hx => ?_, hc.imm, hc.glob⟩
  · refine hc.inj x y B C h1 h2 ?_ ?_ he
    · by_cases e : x = l
      · subst e; simp [hl]
      · rwa [AHeap.get_set_ne _ _ e] at h3
    · by_cases e : y = l
      · subst e; simp [hl]
      · rwa [AHeap.get_set_ne _ _ e] at h4
  · by_cases e : x = l
    · subst e
      rw [AHeap.get_set_same] at hx
      cases hx
      obtain ⟨B', hB', hI, arr, h1, h2, h3, h4⟩ := hc.obj x _ hl
      rw [hB] at hB'; cases hB'
      refine ⟨B, hB, hI, arr, h1, h2, by simp; omega, fun i z u hz hu => ?_⟩
      by_cases hi : i < cs.length
      · rw [List.getElem?_append_left hi] at hz
        exact h4 i z u hz hu
      · rw [List.getElem?_append_right (by omega)] at hz
        have := (List.mem_replicate.1 (List.mem_of_getElem? hz)).2
        subst this
        exact .any u
    · rw [AHeap.get_set_ne _ _ e] at hx
      exact hc.obj x o hx

theorem AW.cap {P : Program} {c : Code} {Q : APost} {T : Fr} {H : AHeap} {n s l len k : Nat} {t : TypeId} {cs : List AV} (hx : look T s = .sl l 0 len k) (hH : H.get l = some (.cells t cs)) (hcs : cs.length = len * k)
    (h : ∀ q, len ≤ q → q ≤ maxLen → AW md P c Q ((s, .slx l 0 len q k) :: T) (H.set l (.cells t (cs ++ List.replicate ((q - len) * k) .any))) n) : AW md P c Q T H n := by
  intro ρ I w a hc ht hn hd
  have hs := ht s
  rw [hx] at hs
  generalize hu : a.tmps.getD s undef = u at hs
  cases hs with
  | @sl _ _ _ _ q B hB hl hm hsz =>
    have hmul : (q - len) * k + len * k = q * k := by rw [← Nat.add_mul]; congr 1; omega
    refine wpIn_mono (h q hl hm ρ I w a (hc.widen hH hB (by omega)) (fun i => ?_) hn (hd.ev (Ev.shrink (I := I) hH))) fun _ _ _ f => f.of_ev (Ev.shrink hH)
    rw [look_cons]
    split
    · rename_i e; subst e; rw [hu]; exact .slx hB hl hm hsz
    · exact ht i

inductive SrcN (H : AHeap) (k : Nat) : AV → Nat → Nat → List AV → Prop
  | all {x : AV} {n : Nat} {ys : List AV} (h : Src H k x n ys) : SrcN H k x n n ys
  | sl {l off n m : Nat} {ty : TypeId} {cs : List AV} (h : H.get l = some (.cells ty cs)) (hm : m ≤ n) (hf : off + m * k ≤ cs.length) : SrcN H k (.sl l off n k) n m ((cs.drop off).take (m * k))

theorem SrcN.read {P : Program} {H : AHeap} {ρ : Rho} {I : Imm} {w : World} (hc : Conc ρ I w H) {k n m : Nat} {ys : List AV} {y : AV} (h : SrcN H k y n m ys) (hl : ys.length = m * k) {u : Value} (hu : CV ρ I y u) :
    (∀ w', (Builtin.lenOf u).run P w' = .ok n w') ∧ ∃ news : List Value, news.length = ys.length ∧ (∀ w', w'.heap = w.heap → (Builtin.firstCells k m u).run P w' = .ok news.toArray w') ∧
      ∀ (i : Nat) a v, ys[i]? = some a → news[i]? = some v → CV ρ I a v := by
  cases h with
  | all h =>
    obtain ⟨h1, _, h2⟩ := h.read (P := P) hc hl hu
    exact ⟨h1, h2⟩
  | @sl l off _ _ ty cs hH hm hf =>
    obtain ⟨B, hB, _, hat⟩ := hc.obj l _ hH
    obtain ⟨vs, hvl, hcell, hcv⟩ := obj_stretch hat hf
    cases hu with
    | @sl _ _ _ _ c B' hB' h1 h2 h3 =>
      rw [hB] at hB'; cases hB'
      refine ⟨fun w' => rfl, vs, by simp [hvl]; omega, fun w' hw' => ?_, hcv⟩
      refine run_firstCells_some (P := P) w' k m ⟨B.b, off, none⟩ n c vs hvl (fun j v hv => ?_)
      rw [add_none]
      have := hcell j v hv
      unfold World.cell? at this ⊢
      rw [hw']; exact this

section
variable {P : Program} {o : Oper} {T : Fr} {H : AHeap} {TT : Nat → TI} (hT : TOk P TT)
include hT

end

theorem AStepD.extern {P : Program} {o : Oper} {T : Fr} {H : AHeap} {f : FuncId} {fn : Func} {args : Array Operand} {ats : Array TypeId} {e : Array Value → Sem Value} {x : AV} (ho : o.op = .call { callee := .value (.func f), args := args, argTypes := ats }) (hf : P.funcs[f]? = some fn)
    (hname : (fn.name == "runtime.NumGoroutine") = false) (hb : fn.body.isNone = true) (hn : Extern.findNext fn = none) (he : Extern.find fn = some e)
    (h : ∀ ρ I w a, Conc ρ I w H → TV ρ I T a → ∃ u, (e (args.map a.eval)).run P w = .ok u w ∧ CV ρ I x u) : AStepD P o T H x H := by
  refine .of_pure fun ρ I w a hc ht => ?_
  obtain ⟨u, hr, hv⟩ := h ρ I w a hc ht
  refine ⟨u, ?_, hv⟩
  simp only [execOp, ho, resolve, Act.eval, Deferred.ofValue, invoke, Sem.run_bind, Sem.run_pure, Result.andThen, Array.empty_append, Array.append_empty]
  rw [run_callFunc_extern hf hname hb hn he]
  have hr' : (e (args.map a.eval)).run P w = .ok u w := hr
  simp only [Array.append_empty, Array.empty_append, hr', Result.andThen]
end Go.Ax
