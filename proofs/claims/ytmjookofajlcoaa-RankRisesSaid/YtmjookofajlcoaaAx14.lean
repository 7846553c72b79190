/- The abstract layer, part 14: a slice against nil with what that says of its length; lengths; a list that is grown. -/
import Derived.Test.YtmjookofajlcoaaAx13
namespace Go.Ax
variable {md : Md}

/-- All that was there is there as it was. -/
def Keep (H H' : AHeap) : Prop := H.next ≤ H'.next ∧ ∀ l, l < H.next → H'.get l = H.get l
theorem Keep.refl (H : AHeap) : Keep H H := ⟨Nat.le_refl _, fun _ _ => rfl⟩
theorem Keep.trans {H H1 H2 : AHeap} (a : Keep H H1) (b : Keep H1 H2) : Keep H H2 := ⟨Nat.le_trans a.1 b.1, fun l h => (b.2 l (Nat.lt_of_lt_of_le h a.1)).trans (a.2 l h)⟩
theorem Keep.new {H H' : AHeap} {o : AObj} (h : Keep H H') : Keep H (H'.new o) :=
  ⟨Nat.le_trans h.1 (Nat.le_succ _), fun l hl => (AHeap.get_new_ne _ _ (by have := h.1; omega)).trans (h.2 l hl)⟩
theorem Keep.set {H H' : AHeap} {o : AObj} {k : Nat} (h : Keep H H') (hk : H.next ≤ k) : Keep H (H'.set k o) :=
  ⟨h.1, fun l hl => (AHeap.get_set_ne _ _ (by omega)).trans (h.2 l hl)⟩
theorem Keep.del {H H' : AHeap} {k : Nat} (h : Keep H H') (hk : H.next ≤ k) : Keep H (H'.del k) :=
  ⟨h.1, fun l hl => (AHeap.get_del_ne _ (by omega)).trans (h.2 l hl)⟩

theorem AHeap.get_new_eq (H : AHeap) {k : Nat} (o : AObj) (h : k = H.next) : (H.new o).get k = some o := h ▸ AHeap.get_new_same H o
theorem AHeap.get_set_eq (H : AHeap) {k l : Nat} (o : AObj) (h : k = l) : (H.set l o).get k = some o := h ▸ AHeap.get_set_same H k o
theorem AHeap.get_del_eq (H : AHeap) {k l : Nat} (h : k = l) : (H.del l).get k = none := h ▸ AHeap.get_del_same H k

theorem agg_one {b : Bool} {n : Nat} (h : (b || Nat.beq n 1) = true) : b = false → n = 1 := by
  rintro rfl
  exact Nat.eq_of_beq_eq_true (by simpa using h)
theorem one_v (x : Value) : (AV.v x).one = x.oneCell' := rfl
theorem one_ptr (l k : Nat) : (AV.ptr l k).one = true := rfl
theorem one_ip (cs : List AV) : (AV.ip cs).one = true := rfl
theorem one_sl (l o n k : Nat) : (AV.sl l o n k).one = true := rfl
theorem one_slc (l o n c k : Nat) : (AV.slc l o n c k).one = true := rfl
theorem one_vec (n : Nat) (cs : List AV) : (AV.vec n cs).one = true := rfl
theorem one_map (l : Nat) : (AV.map l).one = true := rfl
theorem one_func (f : Fn) (cs : List AV) : (AV.func f cs).one = true := rfl
theorem one_iface (t : TypeId) (a : AV) : (AV.iface t a).one = true := rfl
theorem ones_nil : ∀ z ∈ ([] : List AV), z.one = true := fun _ h => absurd h List.not_mem_nil

section
variable {P : Program} {o : Oper} {T : Fr} {H : AHeap} {TT : Nat → TI} (hT : TOk P TT)

/-- What can be read as a slice. -/
inductive IsSl : AV → Nat → Prop
  | vec {n : Nat} {cs : List AV} : IsSl (.vec n cs) n
  | sl {l off n k : Nat} : IsSl (.sl l off n k) n
  | slc {l off n c k : Nat} : IsSl (.slc l off n c k) n
  | slx {l off n c k : Nat} : IsSl (.slx l off n c k) n
  | nil : IsSl (.v (.slice none 0 0)) 0

theorem IsSl.conc {x : AV} {n : Nat} (h : IsSl x n) {ρ : Rho} {I : Imm} {u : Value} (hv : CV ρ I x u) : ∃ p c, u = .slice p n c ∧ (p = none → n = 0) := by
  cases h with
  | vec => cases hv with
    | vec0 => exact ⟨_, _, rfl, fun _ => rfl⟩
    | vec => exact ⟨_, _, rfl, fun h => by cases h⟩
  | sl => cases hv with
    | sl => exact ⟨_, _, rfl, fun h => by cases h⟩
  | slc => cases hv with
    | slc => exact ⟨_, _, rfl, fun h => by cases h⟩
  | slx => cases hv with
    | slx => exact ⟨_, _, rfl, fun h => by cases h⟩
  | nil =>
    have := cv_v hv
    subst this
    exact ⟨_, _, rfl, fun _ => rfl⟩

theorem Src.isSl {k : Nat} {x : AV} {n : Nat} {ys : List AV} (h : Src H k x n ys) : IsSl x n := by
  cases h with
  | vec => exact .vec
  | sl => exact .sl
  | nil => exact .nil

omit hT in
theorem Src.new {k : Nat} {x : AV} {n : Nat} {ys : List AV} (h : Src H k x n ys) {o : AObj} (hl : ∀ l q, H.get l = some q → l < H.next) : Src (H.new o) k x n ys := by
  cases h with
  | vec => exact .vec
  | sl h hf =>
    have := hl _ _ h
    exact .sl (by rw [AHeap.get_new_ne _ _ (by omega)]; exact h) hf
  | nil => exact .nil

omit hT in
theorem Src.keep {k : Nat} {x : AV} {n : Nat} {ys : List AV} (h : Src H k x n ys) (hl : ∀ l q, H.get l = some q → l < H.next) {H' : AHeap} (hk : Keep H H') : Src H' k x n ys := by
  cases h with
  | vec => exact .vec
  | sl h hf => exact .sl ((hk.2 _ (hl _ _ h)).trans h) hf
  | nil => exact .nil

omit hT in
theorem over_all {cs ys : List AV} (h : Nat.beq cs.length ys.length = true) : over cs 0 ys = ys := by
  have := Nat.eq_of_beq_eq_true h
  simp [over, this]

omit hT in
theorem Src.one {k : Nat} {x : AV} {n : Nat} {ys : List AV} (h : Src H k x n ys) : x.one = true := by cases h <;> rfl

include hT
theorem AStep.eq_nil {t yt e : TypeId} {x y : Operand} {n : Nat} (ho : o.op = .binOp .eql t x y yt) (hx : IsSl (aev T x) n) (hy : aev T y = .v (.slice none 0 0)) (hok : (TT t).ok = true) (hu : (TT t).und = .slice e) :
    AStep P o T H fun z H' => H' = H ∧ ∃ b, z = .v (.bool b) ∧ (b = true → n = 0) := by
  refine .of_run fun ρ I w a hc ht => ?_
  obtain ⟨p, c, hp, hn⟩ := hx.conc (aev_cv ht x)
  have h1 : (eqGuard .eql t x y (a.eval x) (a.eval y)).run P w = .ok () w := by rw [hp, cv_v (aev_eq ht hy)]; simp [eqGuard]
  have h2 : ∀ d, (Op.equalIn (d + 1) t (a.eval x) (a.eval y)).run P w = .ok p.isNone w := by
    intro d
    rw [hp, cv_v (aev_eq ht hy)]
    cases p <;> simp [Op.equalIn, (hT t hok).run_und w, hu]
  have h3 : binOp .eql t (a.eval x) (a.eval y) = (do pure (.bool (← Op.equal t (a.eval x) (a.eval y)))) := by rw [hp, cv_v (aev_eq ht hy)]; rfl
  have h5 := h2 9999
  refine ⟨_, w, _, ρ, I, H, ?_, ⟨rfl, p.isNone, rfl, fun h => hn (by cases p with | none => rfl | some _ => cases h)⟩, .v _, hc, .refl ρ I w H⟩
  simp only [execOp, ho, Sem.run_bind, h1, Result.andThen, h3, Op.equal, Op.maxDepth, h5, Sem.run_pure]

theorem AStepD.len_sl {t e : TypeId} {x : Operand} {n : Nat} {z : AV} (ho : o.op = .call { callee := .builtin .len, args := #[x], argTypes := #[t] }) (hx : aev T x = z) (hn : IsSl z n) (hok : (TT t).ok = true) (hu : (TT t).und = .slice e) :
    AStepD P o T H (.v (.int .i64 (n : Int))) H := by
  refine .len hT ho hok (.inr ⟨e, hu⟩) ?_ ⟨fun h => ?_, ?_⟩
  · rw [hx]; cases hn <;> rfl
  · rw [hu] at h; cases h
  · rintro ⟨s, hs⟩
    rw [hx] at hs
    subst hs
    cases hn
theorem AStepD.buildSlice0 {t e : TypeId} (ho : o.op = .buildSlice t 0 #[]) (hok : (TT t).ok = true) (hu : (TT t).und = .slice e) (hoke : (TT e).ok = true) {k : Nat} (hk : (TT e).size = k) : AStepD P o T H (.sl H.next 0 0 k) (H.new (.cells e [])) :=
  .buildSlice hT ho hok hu hoke hk (by simp) (by simp) (by simp [afill, zerosA]) (by simp)
theorem AStepD.buildSlice1 {t e : TypeId} {x : Operand} {z : AV} {cs : List AV} (ho : o.op = .buildSlice t 1 #[(0, x)]) (hok : (TT t).ok = true) (hu : (TT t).und = .slice e) (hoke : (TT e).ok = true) {k : Nat} (hk : (TT e).size = k) (hz : aev T x = z) (hcs : z.cells = cs)
    (hl : cs.length = k) (hbig : k ≤ 16777216) (hone : ∀ y ∈ cs, y.one = true) : AStepD P o T H (.sl H.next 0 1 k) (H.new (.cells e cs)) := by
  subst hz; subst hcs
  refine .buildSlice hT ho hok hu hoke hk (by omega) (by simp [maxLen]) ?_ (by simpa using hone)
  have hz := (hT e hoke).zs
  have hzl : (zerosA (TT e).zero 1).length = k := by simp [zerosA, hz, hk]
  simp [afill, hl, hzl, over]
theorem AStepD.store' {t : TypeId} {x y : Operand} {l off k : Nat} {ty : TypeId} {cs ys zs : List AV} {z : AV} (ho : o.op = .store t x y) (hx : aev T x = .ptr l off) (hH : H.get l = some (.cells ty cs)) (hy : aev T y = z) (hz : z.cells = ys) (hys : ∀ x ∈ ys, x.one = true) (hok : (TT t).ok = true)
    (hl : ys.length = k) (hkk : Nat.beq (TT t).size k = true) (hk : off + k ≤ cs.length) (hzs : over cs off ys = zs) : AStepD P o T H .any (H.set l (.cells ty zs)) := by
  subst hy; subst hz; subst hzs
  have := Nat.eq_of_beq_eq_true hkk
  exact .store hT ho hx hok hH rfl hys (by omega) (by omega)
theorem AStepD.load_agg {t : TypeId} {x : Operand} {l off k : Nat} {ty : TypeId} {cs zs : List AV} (ho : o.op = .load t x) (hx : aev T x = .ptr l off) (hag : (TT t).agg = true) (hH : H.get l = some (.cells ty cs)) (hok : (TT t).ok = true)
    (hs : (TT t).size = k) (hk : off + k ≤ cs.length) (hv : (cs.drop off).take k = zs) : AStepD P o T H (.agg zs) H := by
  subst hs; subst hv
  have := AStepD.load_ptr hT ho hx hok hH hk (fun h => by rw [hag] at h; cases h)
  simpa [wrapA, hag] using this
theorem AStepD.load_one {t : TypeId} {x : Operand} {l off : Nat} {ty : TypeId} {cs : List AV} {y : AV} (ho : o.op = .load t x) (hx : aev T x = .ptr l off) (hag : (TT t).agg = false) (hs : Nat.beq (TT t).size 1 = true) (hH : H.get l = some (.cells ty cs)) (hok : (TT t).ok = true)
    (hv : cs[off]? = some y) : AStepD P o T H y H := by
  have hs := Nat.eq_of_beq_eq_true hs
  obtain ⟨hlt, hy⟩ := List.getElem?_eq_some_iff.1 hv
  have := AStepD.load_ptr hT ho hx hok hH (by omega) (fun _ => hs)
  rw [hs, List.drop_eq_getElem_cons hlt, hy] at this
  simpa [wrapA, hag] using this
theorem AStepD.load_agg_ip {t : TypeId} {x : Operand} {k : Nat} {cs zs : List AV} (ho : o.op = .load t x) (hx : aev T x = .ip cs) (hag : (TT t).agg = true) (hok : (TT t).ok = true)
    (hs : (TT t).size = k) (hk : k ≤ cs.length) (hv : cs.take k = zs) : AStepD P o T H (.agg zs) H := by
  subst hs; subst hv
  have := AStepD.load_ip hT (H := H) ho hx hok hk (fun h => by rw [hag] at h; cases h)
  simpa [wrapA, hag] using this
theorem AStepD.load_one_ip {t : TypeId} {x : Operand} {cs : List AV} {y : AV} (ho : o.op = .load t x) (hx : aev T x = .ip cs) (hag : (TT t).agg = false) (hs : Nat.beq (TT t).size 1 = true) (hok : (TT t).ok = true)
    (hv : cs[0]? = some y) : AStepD P o T H y H := by
  have hs := Nat.eq_of_beq_eq_true hs
  cases cs with
  | nil => simp at hv
  | cons c cs =>
    simp only [List.getElem?_cons_zero, Option.some.injEq] at hv
    subst hv
    have := AStepD.load_ip hT (H := H) ho hx hok (by simp; omega) (fun _ => hs)
    rw [hs] at this
    simpa [wrapA, hag] using this
theorem AStepD.len_str {t : TypeId} {x : Operand} {s : ByteArray} (ho : o.op = .call { callee := .builtin .len, args := #[x], argTypes := #[t] }) (hx : aev T x = .v (.string s)) (hok : (TT t).ok = true) (hu : (TT t).und = .string) :
    AStepD P o T H (.v (.int .i64 (s.size : Int))) H :=
  .len hT ho hok (.inl hu) (by rw [hx]; rfl) ⟨fun _ => ⟨s, hx⟩, fun _ => hu⟩
end

theorem AW.lts {P : Program} {c : Code} {Q : APost} {T : Fr} {H : AHeap} {n : Nat} (k : (∀ l q, H.get l = some q → l < H.next) → AW md P c Q T H n) : AW md P c Q T H n :=
  fun ρ I w a hc ht hn hd => k (fun _ _ h => AHeap.get_lt hc h) ρ I w a hc ht hn hd
theorem ACalls.lts {P : Program} {f : FuncId} {args : List AV} {R : AV → AHeap → Prop} {H : AHeap} (k : (∀ l q, H.get l = some q → l < H.next) → ACalls P f args H R) : ACalls P f args H R :=
  fun ρ I w vs hc ha => k (fun _ _ h => AHeap.get_lt hc h) ρ I w vs hc ha

theorem retA_nil {TT : Nat → TI} {T : Fr} {H : AHeap} : retA TT T H [] = some [] := rfl
theorem retA_tmp {TT : Nat → TI} {T : Fr} {H : AHeap} {rs r : List ResultVar} {t : Nat} {x : AV} {xs : List AV} (h : rs = .tmp t :: r) (hx : look T t = x) (hr : retA TT T H r = some xs) : retA TT T H rs = some (x :: xs) := by
  subst h; subst hx; simp [retA, hr]
theorem retA_agg {TT : Nat → TI} {T : Fr} {H : AHeap} {rs r : List ResultVar} {a t l off k : Nat} {ty : TypeId} {cs zs : List AV} {xs : List AV} (h : rs = .cell a t :: r) (hx : look T a = .ptr l off) (hag : (TT t).agg = true) (hH : H.get l = some (.cells ty cs)) (hok : (TT t).ok = true)
    (hs : (TT t).size = k) (hk : off + k ≤ cs.length) (hv : (cs.drop off).take k = zs) (hr : retA TT T H r = some xs) : retA TT T H rs = some (.agg zs :: xs) := by
  subst h; subst hs; subst hv
  simp [retA, hr, hx, hH, hok, hag, hk, wrapA]
theorem retA_one {TT : Nat → TI} {T : Fr} {H : AHeap} {rs r : List ResultVar} {a t l off : Nat} {ty : TypeId} {cs : List AV} {y : AV} {xs : List AV} (h : rs = .cell a t :: r) (hx : look T a = .ptr l off) (hag : (TT t).agg = false) (hs : Nat.beq (TT t).size 1 = true) (hH : H.get l = some (.cells ty cs)) (hok : (TT t).ok = true)
    (hv : cs[off]? = some y) (hr : retA TT T H r = some xs) : retA TT T H rs = some (y :: xs) := by
  subst h
  have hs := Nat.eq_of_beq_eq_true hs
  obtain ⟨hlt, hy⟩ := List.getElem?_eq_some_iff.1 hv
  have : (cs.drop off).take 1 = [y] := by rw [List.drop_eq_getElem_cons hlt, hy]; rfl
  simp only [retA, hx, hH, hok, hag, hs, hr, this, wrapA, Option.map_some, Bool.false_eq_true, if_false]
  rw [if_pos ⟨by omega, trivial, fun _ => trivial⟩]
  rfl

theorem Shift.sub1 {H : AHeap} {x y : AV} (h : SubV x y) : Shift H [x] H [y] := by
  intro ρ I w us hc hx
  refine ⟨I, hc, ⟨hx.1, fun i a u ha hu => ?_⟩, .refl ρ I w H⟩
  cases i with
  | zero =>
    simp only [List.getElem?_cons_zero, Option.some.injEq] at ha
    subst ha
    exact h ρ I u (hx.2 0 x u rfl hu)
  | succ i => simp at ha

/-- A value that is handed back, its own cells frozen. -/
theorem RetQ.frz {TT : Nat → TI} {rs : Array ResultVar} {R : AV → AHeap → Prop} {e : Exit} {T : Fr} {H : AHeap} (he : e = .normal ∨ e = .ret) {xs : List AV} {l : Nat} {t : TypeId} {cs : List AV} {y : AV} (hr : retA TT T H rs.toList = some xs)
    (hl : H.get l = some (.cells t cs)) (hf : Frz l cs (tupA xs) y) (h : R y (H.del l)) : RetQ TT rs R e T H :=
  ⟨he, xs, y, H.del l, hr, Shift.freeze hl rfl fun i x z hx hz => by
    cases i with
    | zero => simp only [List.getElem?_cons_zero, Option.some.injEq] at hx hz; subst hx; subst hz; exact hf
    | succ i => simp at hx, h⟩
theorem RetQ.sub {TT : Nat → TI} {rs : Array ResultVar} {R : AV → AHeap → Prop} {e : Exit} {T : Fr} {H : AHeap} (he : e = .normal ∨ e = .ret) {xs : List AV} {y : AV} (hr : retA TT T H rs.toList = some xs) (hs : SubV (tupA xs) y) (h : R y H) : RetQ TT rs R e T H :=
  ⟨he, xs, y, H, hr, Shift.sub1 hs, h⟩

theorem ACalls.quiet_keep {P : Program} {f : FuncId} {args : List AV} {H : AHeap} {y : AV} (h : ACalls P f args H fun r H' => r = y ∧ Keep H H') (hp : Plain y) : ACalls P f args H fun r H' => r = y ∧ H' = H :=
  ACalls.lts fun hlt => (h.quiet fun _ _ q => ⟨q.1 ▸ hp, fun l o hl => (q.2.2 l (hlt l o hl)).trans hl⟩).mono fun _ _ q => ⟨q.2.choose_spec.1, q.1⟩

/-- A call that keeps all that was there and hands back something plain: the heap is as it was. -/
theorem ACalls.quiet_eq {P : Program} {f : FuncId} {args : List AV} {H : AHeap} {y : AV} (h : ACalls P f args H fun r H' => r = y ∧ ∀ l o, H.get l = some o → H'.get l = some o) (hp : Plain y) : ACalls P f args H fun r H' => r = y ∧ H' = H :=
  (h.quiet fun _ _ q => ⟨q.1 ▸ hp, q.2⟩).mono fun _ _ q => ⟨q.2.choose_spec.1, q.1⟩
end Go.Ax
