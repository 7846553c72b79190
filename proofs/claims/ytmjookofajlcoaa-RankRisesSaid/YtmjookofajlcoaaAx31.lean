/- The abstract layer, part 31: the statement 'for x := range f'. -/
import Derived.Test.YtmjookofajlcoaaAx30
namespace Go.Ax
open Go
variable {md : Md}

section
variable {P : Program} {n : Nat} {p : Tmp} {assign body : Code} {T : Fr} {H : AHeap} {xs : List AV} {pr : Nat → Prop}

/-- How a round of the loop goes, from its start to its end. -/
theorem yields_of {J : Nat → AHeap → Prop} {Jx : Exit → AHeap → Prop} {rec : Loop} {L : Nat} (hpr : ∀ q, pr q → q < L) (hHL : H.next ≤ L)
    (hrec : rec.state = .ready ∧ rec.pending = none ∧ rec.params = #[p] ∧ rec.assign = assign ∧ rec.body = body) (hpn : p < rec.tmps.size) (hn : rec.tmps.size = n)
    (hJ : ∀ i H1 H2, J i H1 → Same (fun q => pr q ∨ q = L) H1 H2 → J i H2) (hJx : ∀ e H1 H2, Jx e H1 → Same (fun q => pr q ∨ q = L) H1 H2 → Jx e H2)
    (round : ∀ l i H1 (hi : i < xs.length), J i H1 → H.next ≤ H1.next →
      AW { r := some l } P assign (AThen (fun T1 H2 => AW { r := some l } P body (RoundPost (fun q => pr q ∨ q = L) H1 (J (i + 1)) Jx) T1 H2 n) (fun _ _ _ => False)) ((p, xs[i]) :: T) H1 n)
    {i : Nat} {A : AHeap} (hi : i < xs.length) (hj : J i A) (hL : A.get L = some (.lp rec (Fr.cs T))) (hA : L < A.next) :
    AYields P L xs[i] A fun r H' => Held pr A H' ∧
      ((r = .v (.bool true) ∧ J (i + 1) H' ∧ H'.get L = some (.lp rec (Fr.cs T)) ∧ L < H'.next) ∨
       (r = .v (.bool false) ∧ ∃ e c, jumpOf e = some c ∧ Jx e H' ∧ H'.get L = some (.lp { rec with state := .done, pending := some c } (Fr.cs T)) ∧ L < H'.next)) := by
  obtain ⟨hr1, hr2, hr3, rfl, rfl⟩ := hrec
  intro ρ I w B u hc hB hu
  obtain ⟨B', hB', hI, hheap, hcs⟩ := hc.obj L _ hL
  rw [hB] at hB'; cases hB'
  have hy := run_yield (P := P) (args := #[u]) hheap (by rw [hr3]; rfl)
  have hfold : (rec.params.zip #[u]).foldl (fun tmps (x : Tmp × Value) => tmps.setIfInBounds x.1 x.2) rec.tmps = rec.tmps.setIfInBounds p u := by rw [hr3]; simp
  refine ⟨rec.fn, _, rec.assign, rec.body, hy, roundIn_of_wpIn trivial ?_⟩
  show rec.assign.wpIn (Fence.wide.inRound B.b) 0 P _ { tmps := (rec.params.zip #[u]).foldl (fun tmps (x : Tmp × Value) => tmps.setIfInBounds x.1 x.2) rec.tmps, defers := [] } w
  rw [hfold]
  have hcd : Conc ρ I w (A.del L) := hc.sub (SubH.del A L)
  have hun : ¬ Owned ρ (A.del L) B.b := hc.unowned hL hB
  have hsame : Same (fun q => pr q ∨ q = L) A (A.del L) := ⟨fun q _ hq => AHeap.get_del_ne _ (fun e => hq (.inr e)), Nat.le_refl _⟩
  have hbl : B.b < w.heap.size := (Array.getElem?_eq_some_iff.1 hheap).1
  have htv : TV ρ I T { tmps := rec.tmps, defers := [] } := TV.cs.2 hcs
  have r1 := round B.b i (A.del L) hi (hJ _ _ _ hj hsame) (by show H.next ≤ A.next; omega) ρ I w { tmps := rec.tmps.setIfInBounds p u, defers := [] } hcd
    (htv.put (d := some p) (fun t ht => by cases ht; exact hpn) hu) (by simpa using hn) (.nil (Nat.zero_le _))
  refine wpIn_mono r1 ?_
  intro e a1 w3 ⟨T1, ρ3, I3, A3, q, hc3, ht3, hn3, hd3, ev3⟩
  cases e with
  | exit id => exact q.elim
  | goto l => exact q.elim
  | ret => exact q.elim
  | panic c => exact q.elim
  | outgrown => exact q.elim
  | normal =>
    have hb3 : w3.heap[B.b]? = some (.loop rec) := (ev3.blk _ hbl hun).trans hheap
    have hun3 := ev3.own _ hbl hun
    have hI3 : I3 B.b = none := hc3.no_imm hb3 (fun _ _ _ h => by cases h)
    have hl3 : B.b < w3.heap.size := (Array.getElem?_eq_some_iff.1 hb3).1
    refine ⟨_, run_beginRound hb3 hr1, ?_⟩
    have hw3 : (w3.putObj B.b (.loop { rec with state := .busy })).heap[B.b]? = some (.loop { rec with state := .busy }) := World.putObj_heap_same hl3
    refine wpIn_mono (q ρ3 I3 _ a1 (hc3.putObj _ hun3 hI3) ht3 hn3 (hd3.putObj fun x hx => by rw [hb3] at hx; cases hx)) ?_
    intro e a2 w4 ⟨T2, ρ4, I4, A4, ⟨hheld, hq⟩, hc4, ht4, hn4, hd4, ev4⟩
    have hl3' : B.b < (w3.putObj B.b (.loop { rec with state := .busy })).heap.size := by rw [World.putObj_size]; exact hl3
    have hb4 : w4.heap[B.b]? = some (.loop { rec with state := .busy }) := (ev4.blk _ hl3' hun3).trans hw3
    have hun4 := ev4.own _ hl3' hun3
    have hI4 : I4 B.b = none := hc4.no_imm hb4 (fun _ _ _ h => by cases h)
    have hl4 : B.b < w4.heap.size := (Array.getElem?_eq_some_iff.1 hb4).1
    have hB4 : ρ4 L = some B := ev4.rho _ _ (ev3.rho _ _ hB)
    have hcs4 : ∀ (i : Nat) x, (Fr.cs T)[i]? = some x → CV ρ4 I4 x (rec.tmps.getD i undef) := fun i x hx => ev4.cv (ev3.cv (hcs i x hx))
    have hnx : A.next ≤ A4.next := Nat.le_trans ev3.next ev4.next
    have hAL : A4.get L = none := by
      have := hheld.1 L (.inr rfl) (show L < A.next from hA)
      rw [this, AHeap.get_del_same]
    -- the record taken up again
    have fin : ∀ r' : Loop, r'.tmps = rec.tmps → Conc ρ4 I4 (w4.putObj B.b (.loop r')) (A4.set L (.lp r' (Fr.cs T))) ∧
        Ev ρ I w A ρ4 I4 (w4.putObj B.b (.loop r')) (A4.set L (.lp r' (Fr.cs T))) ∧ Held pr A (A4.set L (.lp r' (Fr.cs T))) := by
      intro r' hr'
      refine ⟨hc4.own hB4 hun4 (fun k hk => World.putObj_heap_other hk) hI4 ⟨World.putObj_heap_same hl4, by rw [hr']; exact hcs4⟩, ?_, ?_⟩
      · refine ⟨fun l X h => ev4.rho _ _ (ev3.rho _ _ h), fun b x h => ev4.imm _ _ (ev3.imm _ _ h), ev4.os.trans ev3.os, ev4.tape.trans ev3.tape, ev4.output.trans ev3.output, ?_, ?_, ?_, hnx⟩
        · rw [World.putObj_size]
          have := ev4.size
          rw [World.putObj_size] at this
          exact Nat.le_trans ev3.size this
        · intro b hb ho
          have hne : b ≠ B.b := fun e => ho ⟨L, B, hB, e.symm, by simp [hL]⟩
          have hod : ¬ Owned ρ (A.del L) b := fun h => ho (h.sub (SubH.del A L))
          rw [World.putObj_heap_other hne]
          refine (ev4.blk b (by rw [World.putObj_size]; exact Nat.lt_of_lt_of_le hb ev3.size) (ev3.own b hb hod)).trans ?_
          rw [World.putObj_heap_other hne]
          exact ev3.blk b hb hod
        · intro b hb ho
          have hod : ¬ Owned ρ (A.del L) b := fun h => ho (h.sub (SubH.del A L))
          have ho4 := ev4.own b (by rw [World.putObj_size]; exact Nat.lt_of_lt_of_le hb ev3.size) (ev3.own b hb hod)
          rintro ⟨l', X, h1, h2, h3⟩
          by_cases e : l' = L
          · subst e; rw [hB4] at h1; cases h1
            exact ho ⟨l', B, hB, h2, by simp [hL]⟩
          · rw [AHeap.get_set_ne _ _ e] at h3
            exact ho4 ⟨l', X, h1, h2, h3⟩
      · refine ⟨fun q hq hlt => ?_, hnx⟩
        have hne : q ≠ L := Nat.ne_of_lt (hpr q hq)
        rw [AHeap.get_set_ne _ _ hne]
        exact (hheld.1 q (.inl hq) hlt).trans (AHeap.get_del_ne _ hne)
    have hset : ∀ r' : Loop, Same (fun q => pr q ∨ q = L) A4 (A4.set L (.lp r' (Fr.cs T))) := fun r' => ⟨fun q _ hq => AHeap.get_set_ne _ _ (fun e => hq (.inr e)), Nat.le_refl _⟩
    have hnN : L < A4.next := by omega
    have jump : ∀ e' c, jumpOf e' = some c → Jx e' A4 → ∃ v w', (Instr.endRound B.b (some c)).run P w4 = .ok v w' ∧ ∃ v1 r ρ' I' H', Ending.returned v = .returned v1 ∧
        (Held pr A H' ∧ ((r = .v (.bool true) ∧ J (i + 1) H' ∧ H'.get L = some (.lp rec (Fr.cs T)) ∧ L < H'.next) ∨
         (r = .v (.bool false) ∧ ∃ e c, jumpOf e = some c ∧ Jx e H' ∧ H'.get L = some (.lp { rec with state := .done, pending := some c } (Fr.cs T)) ∧ L < H'.next))) ∧
        CV ρ' I' r v1 ∧ Conc ρ' I' w' H' ∧ Ev ρ I w A ρ' I' w' H' := by
      intro e' c hc' hjx
      obtain ⟨f1, f2, f3⟩ := fin { rec with state := .done, pending := some c } rfl
      exact ⟨_, _, run_endRound (some c) hb4, _, .v (.bool false), ρ4, I4, _, rfl, ⟨f3, .inr ⟨rfl, e', c, hc', hJx _ _ _ hjx (hset _), AHeap.get_set_same _ _ _, hnN⟩⟩, .v _, f1, f2⟩
    cases e with
    | normal =>
      have hr : { rec with state := .ready, pending := none } = rec := by
        cases rec; simp_all
      obtain ⟨f1, f2, f3⟩ := fin { rec with state := .ready, pending := none } rfl
      refine ⟨_, _, run_endRound none hb4, _, .v (.bool true), ρ4, I4, _, rfl, ⟨f3, .inl ⟨rfl, hJ _ _ _ hq (hset _), ?_, hnN⟩⟩, .v _, f1, f2⟩
      rw [AHeap.get_set_same, hr]
    | ret => exact jump .ret .ret rfl hq
    | exit id => exact jump (.exit id) (.exit id) rfl hq
    | goto l => exact hq.elim
    | panic c => exact hq.elim
    | outgrown => exact hq.elim

theorem AW.rangeFunc {base : Nat} {g : Operand} {Q : APost} {gf : FuncId} {lb : List AV} (hg : aev T g = .func (.func gf) lb) (he : Enters P gf) (hpn : p < n) (hs : ASeq P gf lb xs pr H)
    (J : Nat → AHeap → Prop) (Jx : Exit → AHeap → Prop) (hJ : ∀ i H1 H2, J i H1 → Same (fun q => pr q ∨ q = H.next) H1 H2 → J i H2) (hJx : ∀ e H1 H2, Jx e H1 → Same (fun q => pr q ∨ q = H.next) H1 H2 → Jx e H2) (h0 : J 0 H)
    (round : ∀ l i H1 (hi : i < xs.length), J i H1 → H.next ≤ H1.next →
      AW { r := some l } P assign (AThen (fun T1 H2 => AW { r := some l } P body (RoundPost (fun q => pr q ∨ q = H.next) H1 (J (i + 1)) Jx) T1 H2 n) (fun _ _ _ => False)) ((p, xs[i]) :: T) H1 n)
    (done : ∀ H1, J xs.length H1 → H.next ≤ H1.next → Q .normal T H1) (stop : ∀ e H1, Jx e H1 → H.next ≤ H1.next → (jumpOf e).isSome → Q e T H1) :
    AW { base := base } P (.rangeFunc g #[p] assign body) Q T H n := by
  intro ρ I w a hc ht hn hd
  have hv := aev_eq ht hg
  obtain ⟨vs, hvs, hl, hcv⟩ : ∃ vs : List Value, a.eval g = .func (.func gf) #[] vs.toArray ∧ vs.length = lb.length ∧ ∀ (i : Nat) a u, lb[i]? = some a → vs[i]? = some u → CV ρ I a u := by
    generalize a.eval g = u at hv
    cases hv with
    | func hl hv => exact ⟨_, rfl, hl, hv⟩
  refine wpIn_rangeFunc ?_
  intro fn _
  obtain ⟨W0, hW0⟩ : ∃ W0, w.alloc (.deferred (some [])) = W0 := ⟨_, rfl⟩
  have hs0 : W0.heap.size = w.heap.size + 1 := by rw [← hW0]; simp
  obtain ⟨rec, hrec⟩ : ∃ rec : Loop, { state := .ready, pending := none, fn, tmps := a.tmps, params := #[p], assign, body, defers := w.heap.size } = rec := ⟨_, rfl⟩
  have hrs : rec.state = .ready ∧ rec.pending = none ∧ rec.params = #[p] ∧ rec.assign = assign ∧ rec.body = body := by subst hrec; exact ⟨rfl, rfl, rfl, rfl, rfl⟩
  have hrt : rec.tmps = a.tmps := by subst hrec; rfl
  obtain ⟨W1, hW1⟩ : ∃ W1, W0.alloc (.loop rec) = W1 := ⟨_, rfl⟩
  have hc0 : Conc ρ I W0 H := by rw [← hW0]; exact hc.alloc_alien _
  have ev0 : Ev ρ I w H ρ I W0 H := by rw [← hW0]; exact .alloc_alien hc _
  have hext : ∀ l B, ρ l = some B → ρ.new H.next ⟨W0.heap.size, 0⟩ l = some B := fun l B h => by
    have := hc.dom l B h
    unfold Rho.new
    rw [if_neg (by omega)]; exact h
  obtain ⟨hc1, ev1⟩ := hc0.new (w' := W1) (o := .lp rec (Fr.cs T)) 0 (by rw [← hW1]; simp) (fun k hk => by rw [← hW1]; exact heap_alloc_old _ _ k hk)
    ⟨by rw [← hW1]; exact World.alloc_heap_new _ _, fun i x hx => by rw [hrt]; exact (TV.cs.1 ht i x hx).mono hext (fun _ _ h => h)⟩ (by rw [← hW1]; rfl) (by rw [← hW1]; rfl) (by rw [← hW1]; rfl)
  have evA := ev0.trans ev1
  generalize hρ1 : ρ.new H.next ⟨W0.heap.size, 0⟩ = ρ1 at hc1 ev1 evA hext
  have hBL : ρ1 H.next = some ⟨W0.heap.size, 0⟩ := by rw [← hρ1]; simp [Rho.new]
  have hD1 : W1.heap[w.heap.size]? = some (.deferred (some [])) := by
    rw [← hW1, heap_alloc_old _ _ _ (by omega), ← hW0]; exact World.alloc_heap_new _ _
  have hDun : ¬ Owned ρ1 (H.new (.lp rec (Fr.cs T))) w.heap.size := by
    rintro ⟨l, B, h1, h2, h3⟩
    by_cases e : l = H.next
    · subst e; rw [hBL] at h1; cases h1; simp only at h2; omega
    · rw [AHeap.get_new_ne _ _ e] at h3
      obtain ⟨o, ho⟩ := Option.isSome_iff_exists.1 h3
      obtain ⟨B', hB', _, hO⟩ := hc.obj l o ho
      have := hext _ _ hB'
      rw [h1] at this; cases this
      have := hO.lt
      omega
  refine ⟨W0.heap.size, [{ target := .collected w.heap.size, args := #[] }], W1, { target := .fn (.func gf) vs.toArray, args := #[.func (.yield W0.heap.size) #[] #[]] }, W1, gf,
    #[.func (.yield W0.heap.size) #[] #[]] ++ vs.toArray, W1, ?_, ?_, fun _ _ => trivial, ?_, fun hh => (by simp [Md.F, Fence.wide] at hh), ?_⟩
  · rw [← hW1, ← hrec, hs0, ← hW0]; exact run_enterLoop_outer _ _ _ _ _
  · simp only [resolve, hvs]
    simp [Deferred.ofValue, Sem.run_bind, Sem.run_pure, Result.andThen, Act.eval]
  · simp only [invoke]
    exact he _ W1
  · have hargs : CVs ρ1 I (.yld H.next :: lb) ((#[.func (.yield W0.heap.size) #[] #[]] ++ vs.toArray : Array Value).toList) := by
      have h1 : CV ρ1 I (.yld H.next) (.func (.yield W0.heap.size) #[] #[]) := .yld hBL
      have h2 : CVs ρ1 I lb vs := ⟨hl, fun i a u ha hu => (hcv i a u ha hu).mono hext (fun _ _ h => h)⟩
      simpa using CVs.cons h1 h2
    have hnp : ¬ pr H.next := fun h => by have := hs.1 _ h; omega
    have wk : ∀ A B, Same pr A B → Same (fun q => pr q ∨ q = H.next) A B := fun A B h => ⟨fun q hq hn => h.1 q hq (fun hp => hn (.inl hp)), h.2⟩
    have hcall := hs.2 H.next (fun i Hh => J i Hh ∧ Hh.get H.next = some (.lp rec (Fr.cs T)) ∧ H.next < Hh.next)
      (fun Hh => ∃ e c, jumpOf e = some c ∧ Jx e Hh ∧ Hh.get H.next = some (.lp { rec with state := .done, pending := some c } (Fr.cs T)) ∧ H.next < Hh.next)
      (H.new (.lp rec (Fr.cs T))) (Nat.lt_succ_self _) hnp (Nat.le_succ _) (fun q hq => AHeap.get_new_ne _ _ (by have := hs.1 _ hq; omega))
      (fun i H1 H2 h hs' => ⟨hJ i H1 H2 h.1 (wk _ _ hs'), (hs'.1 H.next h.2.2 hnp).trans h.2.1, Nat.lt_of_lt_of_le h.2.2 hs'.2⟩)
      (fun H1 H2 ⟨e, c, h1, h2, h3, h4⟩ hs' => ⟨e, c, h1, hJx e H1 H2 h2 (wk _ _ hs'), (hs'.1 H.next h4 hnp).trans h3, Nat.lt_of_lt_of_le h4 hs'.2⟩)
      (fun i A hi hj hA => yields_of hs.1 (Nat.le_refl _) hrs (by rw [hrt, hn]; exact hpn) (by rw [hrt, hn]) hJ hJx round hi hj.1 hj.2.1 hj.2.2)
      ⟨hJ 0 H _ h0 ⟨fun q hq hp => AHeap.get_new_ne _ _ (fun e => hp (.inr e)), Nat.le_succ _⟩, AHeap.get_new_same _ _, Nat.lt_succ_self _⟩
    have hc2 := hcall ρ1 I W1 _ hc1 hargs
    refine callsIn_wide.2 (Calls.mono hc2 ?_)
    rintro e W2 ⟨v, r, ρ2, I2, H2, rfl, hj, _, hcc, ev2⟩
    have hB2 : ρ2 H.next = some ⟨W0.heap.size, 0⟩ := ev2.rho _ _ hBL
    have hDlt : w.heap.size < W1.heap.size := (Array.getElem?_eq_some_iff.1 hD1).1
    have hD2 : W2.heap[w.heap.size]? = some (.deferred (some [])) := (ev2.blk _ hDlt hDun).trans hD1
    have hDun2 := ev2.own _ hDlt hDun
    have evAll := evA.trans ev2
    -- the end of the loop, whichever jump is pending
    have fin : ∀ (r' : Loop) (jp : Option Code), H2.get H.next = some (.lp r' (Fr.cs T)) → r'.state ≠ .busy → r'.pending = jp →
        ∃ w4, (Instr.endLoop W0.heap.size).run P W2 = .ok jp w4 ∧ Conc ρ2 I2 w4 (H2.del H.next) ∧ Ev ρ I w H ρ2 I2 w4 (H2.del H.next) ∧ TV ρ2 I2 T a ∧
          DOK { base := base } ρ2 w4 (H2.del H.next) ([{ target := .collected w.heap.size, args := #[] }] ++ a.defers) := by
      intro r' jp hg2 hst hp
      obtain ⟨B', hB', hI', hO, _⟩ := hcc.obj _ _ hg2
      rw [hB2] at hB'; cases hB'
      have hun := hcc.unowned hg2 hB2
      refine ⟨_, by rw [← hp]; exact run_endLoop hO hst, (hcc.sub (SubH.del _ _)).putObj _ hun hI', (evAll.trans (Ev.sub (SubH.del _ _))).putObj _ (by show w.heap.size ≤ W0.heap.size; omega), ht.mono evAll.rho evAll.imm, ?_⟩
      refine ⟨by rw [World.putObj_size]; exact Nat.le_trans hd.1 evAll.size, List.nodup_cons.2 ⟨fun hm => ?_, hd.2.1⟩, fun d hdm => ?_⟩
      · obtain ⟨D, he, _, h2, _⟩ := hd.2.2 _ hm
        have : w.heap.size = D := by injection he with h; injection h
        have := (Array.getElem?_eq_some_iff.1 h2).1
        omega
      · rcases List.mem_cons.1 hdm with rfl | hdm
        · refine ⟨_, rfl, hd.1, (World.putObj_heap_other (by show w.heap.size ≠ W0.heap.size; omega)).trans hD2, fun h => hDun2 (h.sub (SubH.del _ _))⟩
        · obtain ⟨D, rfl, h1, h2, h3⟩ := hd.2.2 d hdm
          have hlt := (Array.getElem?_eq_some_iff.1 h2).1
          exact ⟨D, rfl, h1, (World.putObj_heap_other (by show D ≠ W0.heap.size; omega)).trans ((evAll.blk _ hlt h3).trans h2), fun h => evAll.own _ hlt h3 (h.sub (SubH.del _ _))⟩
    have hsame : Same (fun q => pr q ∨ q = H.next) H2 (H2.del H.next) := ⟨fun q _ hq => AHeap.get_del_ne _ (fun e => hq (.inr e)), Nat.le_refl _⟩
    rcases hj with ⟨hj1, hj2, hj3⟩ | ⟨e, c, hjc, hj1, hj2, hj3⟩
    · obtain ⟨w4, f1, f2, f3, f4, f5⟩ := fin rec none hj2 (by rw [hrs.1]; simp) hrs.2.1
      exact ⟨none, w4, f1, T, ρ2, I2, _, done _ (hJ _ _ _ hj1 hsame) (by show H.next ≤ H2.next; omega), f2, f4, hn, f5, f3⟩
    · obtain ⟨w4, f1, f2, f3, f4, f5⟩ := fin _ (some c) hj2 (by simp) rfl
      refine ⟨some c, w4, f1, ?_⟩
      have hq := stop e _ (hJx _ _ _ hj1 hsame) (by show H.next ≤ H2.next; omega) (by rw [hjc]; rfl)
      cases e with
      | ret => cases hjc; exact wpIn_ret ⟨T, ρ2, I2, _, hq, f2, f4, hn, f5, f3⟩
      | exit id => cases hjc; exact wpIn_exit ⟨T, ρ2, I2, _, hq, f2, f4, hn, f5, f3⟩
      | normal => cases hjc
      | goto l => cases hjc
      | panic c => cases hjc
      | outgrown => cases hjc
end
end Go.Ax
