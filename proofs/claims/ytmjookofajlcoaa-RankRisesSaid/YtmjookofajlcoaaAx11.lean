/- The abstract layer, part 11: plain values; calls that leave the heap as it was. -/
import Derived.Test.YtmjookofajlcoaaAx10
namespace Go.Ax
variable {md : Md}

/-- A value that names no location. -/
inductive Plain : AV → Prop
  | v (x : Value) : Plain (.v x)
  | any : Plain .any
  | ip {cs : List AV} (h : ∀ a ∈ cs, Plain a) : Plain (.ip cs)
  | vec {n : Nat} {cs : List AV} (h : ∀ a ∈ cs, Plain a) : Plain (.vec n cs)
  | agg {cs : List AV} (h : ∀ a ∈ cs, Plain a) : Plain (.agg cs)
  | tup {cs : List AV} (h : ∀ a ∈ cs, Plain a) : Plain (.tup cs)
  | func {fn : Fn} {cs : List AV} (h : ∀ a ∈ cs, Plain a) : Plain (.func fn cs)
  | iface {t : TypeId} {a : AV} (h : Plain a) : Plain (.iface t a)
  | cond {b : Bool} {a : AV} (h : Plain a) : Plain (.cond b a)

theorem CV.plain {ρ ρ' : Rho} {I : Imm} {a : AV} {u : Value} (h : CV ρ I a u) (hp : Plain a) : CV ρ' I a u := by
  induction h with
  | v x => exact .v x
  | any y => exact .any y
  | ptr h => cases hp
  | ip h hl hc _ ih => cases hp with | ip hp => exact .ip h hl hc fun i a u ha hu => ih i a u ha hu (hp a (List.mem_of_getElem? ha))
  | sl h hl hm hs => cases hp
  | slc => cases hp
  | slx => cases hp
  | vec0 => exact .vec0
  | vec hn hm h hl hc _ ih => cases hp with | vec hp => exact .vec hn hm h hl hc fun i a u ha hu => ih i a u ha hu (hp a (List.mem_of_getElem? ha))
  | map h => cases hp
  | func hl _ ih => cases hp with | func hp => exact .func hl fun i a u ha hu => ih i a u ha hu (hp a (List.mem_of_getElem? ha))
  | agg hl _ ih => cases hp with | agg hp => exact .agg hl fun i a u ha hu => ih i a u ha hu (hp a (List.mem_of_getElem? ha))
  | tup hl _ ih => cases hp with | tup hp => exact .tup hl fun i a u ha hu => ih i a u ha hu (hp a (List.mem_of_getElem? ha))
  | iface _ ih => cases hp with | iface hp => exact .iface (ih hp)
  | yld h => cases hp
  | cond _ h0 ih => cases hp with | cond hp => exact .cond (fun hb => ih hb hp) h0

/-- What was said of a value by older locations, and is said of another one by newer ones, is said of that by the older ones. -/
theorem CV.restrict {ρ ρ' : Rho} {I I' : Imm} (hρ : ∀ l B, ρ l = some B → ρ' l = some B) {a : AV} {u0 u : Value} (h0 : CV ρ I a u0) (h : CV ρ' I' a u) : CV ρ I' a u := by
  induction h generalizing u0 with
  | v x => exact .v x
  | any y => exact .any y
  | @ptr l off B h =>
    cases h0 with | @ptr _ _ B0 h0 => have := hρ _ _ h0; rw [h] at this; cases this; exact .ptr h0
  | @ip cs b off arr vs h hl hc _ ih =>
    cases h0 with
    | @ip _ b0 off0 arr0 vs0 g gl gc gv =>
      refine .ip h hl hc fun i a u ha hu => ?_
      have hi : i < vs0.length := by rw [gl]; exact (List.getElem?_eq_some_iff.1 ha).1
      exact ih i a u ha hu (gv i a vs0[i] ha (by simp [hi]))
  | @sl l off len k c B h hl hm hs =>
    cases h0 with | @sl _ _ _ _ c0 B0 h0 _ _ _ => have := hρ _ _ h0; rw [h] at this; cases this; exact .sl h0 hl hm hs
  | @slx l off len cap k B h hl hm hs =>
    cases h0 with | @slx _ _ _ _ _ B0 h0 _ _ _ => have := hρ _ _ h0; rw [h] at this; cases this; exact .slx h0 hl hm hs
  | @slc l off len cap k c B h hl hc hm hs =>
    cases h0 with | @slc _ _ _ _ _ c0 B0 h0 _ _ _ _ => have := hρ _ _ h0; rw [h] at this; cases this; exact .slc h0 hl hc hm hs
  | @yld l B h =>
    cases h0 with | @yld _ B0 h0 => have := hρ _ _ h0; rw [h] at this; cases this; exact .yld h0
  | vec0 => exact .vec0
  | @vec n c cs b off arr vs hn hm h hl hc hv ih =>
    cases h0 with
    | vec0 =>
      refine .vec hn hm h hl hc fun i a u ha hu => by simp at ha
    | @vec _ c0 _ b0 off0 arr0 vs0 gn gm g gl gc gv =>
      refine .vec hn hm h hl hc fun i a u ha hu => ?_
      have hi : i < vs0.length := by rw [gl]; exact (List.getElem?_eq_some_iff.1 ha).1
      exact ih i a u ha hu (gv i a vs0[i] ha (by simp [hi]))
  | @map l B h =>
    cases h0 with | @map _ B0 h0 => have := hρ _ _ h0; rw [h] at this; cases this; exact .map h0
  | @func fn cs vs hl _ ih =>
    cases h0 with
    | @func _ _ vs0 gl gv =>
      refine .func hl fun i a u ha hu => ?_
      have hi : i < vs0.length := by rw [gl]; exact (List.getElem?_eq_some_iff.1 ha).1
      exact ih i a u ha hu (gv i a vs0[i] ha (by simp [hi]))
  | @agg cs vs hl _ ih =>
    cases h0 with
    | @agg _ vs0 gl gv =>
      refine .agg hl fun i a u ha hu => ?_
      have hi : i < vs0.length := by rw [gl]; exact (List.getElem?_eq_some_iff.1 ha).1
      exact ih i a u ha hu (gv i a vs0[i] ha (by simp [hi]))
  | @tup cs vs hl _ ih =>
    cases h0 with
    | @tup _ vs0 gl gv =>
      refine .tup hl fun i a u ha hu => ?_
      have hi : i < vs0.length := by rw [gl]; exact (List.getElem?_eq_some_iff.1 ha).1
      exact ih i a u ha hu (gv i a vs0[i] ha (by simp [hi]))
  | iface _ ih => cases h0 with | iface h0 => exact .iface (ih h0)
  | @cond b a u _ h00 ih =>
    cases h0 with | cond h0 _ => exact .cond (fun hb => ih hb (h0 hb)) h00

/-- A call that leaves the heap's locations as they were, and hands back a plain value. -/
theorem ACalls.quiet {P : Program} {f : FuncId} {args : List AV} {H : AHeap} {R : AV → AHeap → Prop} (h : ACalls P f args H R) (hq : ∀ r H', R r H' → Plain r ∧ ∀ l o, H.get l = some o → H'.get l = some o) :
    ACalls P f args H fun r H' => H' = H ∧ ∃ H'', R r H'' := by
  intro ρ I w vs hc ha
  refine (h ρ I w vs hc ha).mono ?_
  rintro e w' ⟨u, r, ρ', I', H', he, hR, hr, hc', ev⟩
  obtain ⟨hp, hs⟩ := hq r H' hR
  refine ⟨u, r, ρ, I', H, he, ⟨rfl, H', hR⟩, hr.plain hp, ⟨hc.inj, hc.dom, ?_, hc'.imm⟩, ⟨fun _ _ h => h, ev.imm, ev.os, ev.tape, ev.output, ev.size, ev.blk, fun b _ h => h, Nat.le_refl _⟩⟩
  intro l o hl
  obtain ⟨B, hB, _, hat⟩ := hc.obj l o hl
  obtain ⟨B', hB', hI', hat'⟩ := hc'.obj l o (hs l o hl)
  have := ev.rho l B hB
  rw [hB'] at this
  cases this
  refine ⟨B, hB, hI', ?_⟩
  cases o with
  | cells t cs =>
    obtain ⟨arr, h1, h2, h3, h4⟩ := hat'
    obtain ⟨arr0, g1, g2, g3, g4⟩ := hat
    refine ⟨arr, h1, h2, h3, fun i a u ha hu => ?_⟩
    have hi : i < arr0.size := Nat.lt_of_lt_of_le (List.getElem?_eq_some_iff.1 ha).1 g3
    exact (g4 i a arr0[i] ha (by simp [hi])).restrict ev.rho (h4 i a u ha hu)
  | map es =>
    obtain ⟨ents, clock, h1, h2, h3, h4, h5⟩ := hat'
    obtain ⟨ents0, clock0, g1, g2, g3, g4, g5⟩ := hat
    refine ⟨ents, clock, h1, h2, fun i e en he hn => ⟨(h3 i e en he hn).1, ?_⟩, h4, h5⟩
    have hi : i < ents0.size := by rw [g2]; exact (List.getElem?_eq_some_iff.1 he).1
    exact (g3 i e ents0[i] he (by simp [hi])).2.restrict ev.rho (h3 i e en he hn).2
  | obj o => exact hat'
  | lp rec cs =>
    exact ⟨hat'.1, fun i a ha => (hat.2 i a ha).restrict ev.rho (hat'.2 i a ha)⟩

section
variable {P : Program} {o : Oper} {T : Fr} {H H1 : AHeap} {x : AV}

/-- A slot of which something is known under a condition that holds. -/
theorem AStepD.uncond (s : Nat) {g : Bool} {a : AV} (hx : look T s = .cond g a) (hg : g = true) (h : AStepD P o ((s, a) :: T) H x H1) : AStepD P o T H x H1 := by
  intro ρ I w b hc ht Q
  refine h ρ I w b hc (fun i => ?_) Q
  rw [look_cons]
  split
  · rename_i e
    subst e
    have := ht i
    rw [hx] at this
    cases this with | cond h _ => exact h hg
  · exact ht i

theorem AStep.uncond (s : Nat) {g : Bool} {a : AV} {K : AV → AHeap → Prop} (hx : look T s = .cond g a) (hg : g = true) (h : AStep P o ((s, a) :: T) H K) : AStep P o T H K := by
  intro ρ I w b hc ht Q
  refine h ρ I w b hc (fun i => ?_) Q
  rw [look_cons]
  split
  · rename_i e
    subst e
    have := ht i
    rw [hx] at this
    cases this with | cond h _ => exact h hg
  · exact ht i

variable {TT : Nat → TI} (hT : TOk P TT) {y : AV}
include hT
theorem AStepD.field' {s : TypeId} {z : Operand} {k : Nat} {cs : List AV} {fs : Array Field} {f : Field} (ho : o.op = .field s z k) (hx : aev T z = .agg cs) (hok : (TT s).ok = true) (hs : (TT s).und = .struct fs) (hf : fs[k]? = some f)
    (hokf : (TT f.type).ok = true) (hk : f.offset + (TT f.type).size ≤ cs.length) (h1 : (TT f.type).agg = false → (TT f.type).size = 1) (hv : wrapA (TT f.type).agg ((cs.drop f.offset).take (TT f.type).size) = y) : AStepD P o T H y H :=
  hv ▸ .field hT ho hx hok hs hf hokf hk h1
end

/-- A single region, behind which the function's rest stands. -/
theorem AW.region_k {P : Program} {id : Nat} {ops : Array Oper} {K : Fr → AHeap → Prop} {Q : APost} {T : Fr} {H : AHeap} {n : Nat} (h : AL md P ops (AThen K Q) ops.toList T H n) : AW md P (.region id ops false) (AThen K Q) T H n := .region h

/-- Two pieces of code, the second behind a name. -/
theorem AW.seq_k {P : Program} {x y : Code} {Q : APost} {T : Fr} {H : AHeap} {n : Nat} (h : ∀ K : Fr → AHeap → Prop, (∀ T H, AW md P y Q T H n → K T H) → AW md P x (AThen K Q) T H n) : AW md P (.seq x y) Q T H n :=
  .seq (h _ fun _ _ h => h)

/-- A test whose outcome is known. -/
theorem AW.cond_true {P : Program} {c : Operand} {x y : Code} {Q : APost} {T : Fr} {H : AHeap} {n : Nat} {b : Bool} (hb : aev T c = .v (.bool b)) (ht : b = true) (h : AW md P x Q T H n) : AW md P (.cond c x y) Q T H n :=
  .cond b hb (fun _ => h) (fun hf => by rw [ht] at hf; cases hf)
theorem AW.cond_false {P : Program} {c : Operand} {x y : Code} {Q : APost} {T : Fr} {H : AHeap} {n : Nat} {b : Bool} (hb : aev T c = .v (.bool b)) (hf : b = false) (h : AW md P y Q T H n) : AW md P (.cond c x y) Q T H n :=
  .cond b hb (fun ht => by rw [hf] at ht; cases ht) (fun _ => h)

theorem dec_true {p : Prop} [Decidable p] (h : decide p = true) : p := of_decide_eq_true h
theorem dec_false {p : Prop} [Decidable p] (h : decide p = false) : ¬ p := of_decide_eq_false h
end Go.Ax
