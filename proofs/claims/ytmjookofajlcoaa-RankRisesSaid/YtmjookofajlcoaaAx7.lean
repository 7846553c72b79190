/- The abstract layer, part 7: append, literals, closures, calls, the begin and the end of a function, freezing. -/
import Derived.Test.YtmjookofajlcoaaAx6
namespace Go.Ax
variable {md : Md}

theorem AHeap.get_lt {ρ : Rho} {I : Imm} {w : World} {H : AHeap} (hc : Conc ρ I w H) {l : Nat} {o : AObj} (h : H.get l = some o) : l < H.next := by
  obtain ⟨B, hB, _⟩ := hc.obj l o h
  exact hc.dom l B hB

theorem AW.lt {P : Program} {c : Code} {Q : APost} {T : Fr} {H : AHeap} {n l : Nat} {o : AObj} (h : H.get l = some o) (k : l < H.next → AW md P c Q T H n) : AW md P c Q T H n :=
  fun ρ I w a hc ht hn hd => k (AHeap.get_lt hc h) ρ I w a hc ht hn hd
theorem ACalls.lt {P : Program} {f : FuncId} {args : List AV} {R : AV → AHeap → Prop} {H : AHeap} {l : Nat} {o : AObj} (h : H.get l = some o) (k : l < H.next → ACalls P f args H R) : ACalls P f args H R :=
  fun ρ I w vs hc ha => k (AHeap.get_lt hc h) ρ I w vs hc ha

/-- A location by another name. -/
theorem Conc.rename {ρ : Rho} {I : Imm} {w : World} {H : AHeap} (hc : Conc ρ I w H) {l : Nat} {o : AObj} {B : Blk} (hl : H.get l = some o) (hB : ρ l = some B) :
    Conc (ρ.new H.next B) I w ((H.new o).del l) ∧ Ev ρ I w H (ρ.new H.next B) I w ((H.new o).del l) := by
  have hlt := AHeap.get_lt hc hl
  have hext : ∀ l' B', ρ l' = some B' → ρ.new H.next B l' = some B' := by
    intro l' B' h
    have := hc.dom l' B' h
    unfold Rho.new
    rw [if_neg (by omega)]
    exact h
  have hgo : ∀ k, k ≠ H.next → k ≠ l → ((H.new o).del l).get k = H.get k := fun k h1 h2 => by rw [AHeap.get_del_ne _ h2, AHeap.get_new_ne _ _ h1]
  have hgn : ((H.new o).del l).get H.next = some o := by rw [AHeap.get_del_ne _ (by omega), AHeap.get_new_same]
  have back : ∀ k C, ρ.new H.next B k = some C → (((H.new o).del l).get k).isSome → ∃ k', ρ k' = some C ∧ (H.get k').isSome ∧ (k = H.next → k' = l) ∧ (k ≠ H.next → k' = k ∧ k ≠ l) := by
    intro k C h1 h2
    by_cases e : k = H.next
    · subst e
      simp only [Rho.new, if_true] at h1
      cases h1
      exact ⟨l, hB, by simp [hl], fun _ => rfl, fun h => (h rfl).elim⟩
    · have e2 : k ≠ l := by
        rintro rfl
        rw [AHeap.get_del_same] at h2
        cases h2
      rw [hgo k e e2] at h2
      simp only [Rho.new, if_neg e] at h1
      exact ⟨k, h1, h2, fun h => (e h).elim, fun _ => ⟨rfl, e2⟩⟩
  refine ⟨⟨?_, ?_, ?_, hc.imm⟩, ⟨hext, fun _ _ h => h, rfl, rfl, rfl, Nat.le_refl _, fun _ _ _ => rfl, ?_, by simp [AHeap.del, AHeap.new]⟩⟩
  · intro a b A C h1 h2 h3 h4 he
    obtain ⟨a', ha1, ha2, ha3, ha4⟩ := back a A h1 h3
    obtain ⟨b', hb1, hb2, hb3, hb4⟩ := back b C h2 h4
    have := hc.inj a' b' A C ha1 hb1 ha2 hb2 he
    by_cases ea : a = H.next
    · by_cases eb : b = H.next
      · omega
      · have := ha3 ea; have := hb4 eb; omega
    · by_cases eb : b = H.next
      · have := ha4 ea; have := hb3 eb; omega
      · have := ha4 ea; have := hb4 eb; omega
  · intro k C h
    simp only [Rho.new] at h
    split at h
    · rename_i e; simp [AHeap.del, AHeap.new, e]
    · have := hc.dom k C h; simp [AHeap.del, AHeap.new]; omega
  · intro k q hq
    by_cases e : k = H.next
    · subst e
      rw [hgn] at hq
      cases hq
      obtain ⟨B', hB', hI, hat⟩ := hc.obj l o hl
      rw [hB] at hB'; cases hB'
      exact ⟨B, by simp [Rho.new], hI, hat.mono hext (fun _ _ h => h) rfl⟩
    · by_cases e2 : k = l
      · subst e2; rw [AHeap.get_del_same] at hq; cases hq
      · rw [hgo k e e2] at hq
        obtain ⟨B', h1, h2, h3⟩ := hc.obj k q hq
        exact ⟨B', hext k B' h1, h2, h3.mono hext (fun _ _ h => h) rfl⟩
  · rintro b hb hn ⟨k, C, h1, h2, h3⟩
    obtain ⟨k', g1, g2, _⟩ := back k C h1 h3
    exact hn ⟨k', C, g1, h2, g2⟩

theorem SubH.del (H : AHeap) (l : Nat) : SubH H (H.del l) :=
  ⟨fun k o h => by
    by_cases e : k = l
    · subst e; rw [AHeap.get_del_same] at h; cases h
    · rwa [AHeap.get_del_ne _ e] at h, rfl⟩

section
variable {P : Program} {o : Oper} {T : Fr} {H : AHeap} {TT : Nat → TI} (hT : TOk P TT)

/-! ### append -/

/-- What is appended: n elements of k cells, their cells ys. -/
inductive Src (H : AHeap) (k : Nat) : AV → Nat → List AV → Prop
  | vec {n : Nat} {ys : List AV} : Src H k (.vec n ys) n ys
  | sl {l off n : Nat} {ty : TypeId} {cs : List AV} (h : H.get l = some (.cells ty cs)) (hf : off + n * k ≤ cs.length) : Src H k (.sl l off n k) n ((cs.drop off).take (n * k))
  | nil : Src H k (.v (.slice none 0 0)) 0 []

theorem Src.read {ρ : Rho} {I : Imm} {w : World} (hc : Conc ρ I w H) {k n : Nat} {ys : List AV} {y : AV} (h : Src H k y n ys) (hl : ys.length = n * k) {u : Value} (hu : CV ρ I y u) :
    (∀ w', (Builtin.lenOf u).run P w' = .ok n w') ∧ (∃ p c, u = .slice p n c) ∧ ∃ news : List Value, news.length = ys.length ∧ (∀ w', w'.heap = w.heap → (Builtin.firstCells k n u).run P w' = .ok news.toArray w') ∧
      ∀ (i : Nat) a v, ys[i]? = some a → news[i]? = some v → CV ρ I a v := by
  cases h with
  | vec =>
    cases hu with
    | @vec0 p c =>
      refine ⟨fun w' => rfl, ⟨_, _, rfl⟩, [], rfl, fun w' _ => ?_, by simp⟩
      cases p with
      | none => simp [Builtin.firstCells]
      | some p =>
        have := run_firstCells_some (P := P) w' k 0 p 0 c [] (by simp) (by simp)
        simpa using this
    | @vec _ c _ b off arr vs hn hm hI hl' hcc hvv =>
      obtain ⟨t, fz, hb⟩ := hc.imm b arr hI
      refine ⟨fun w' => rfl, ⟨_, _, rfl⟩, vs, hl', fun w' hw' => ?_, hvv⟩
      refine run_firstCells_some (P := P) w' k n ⟨b, off, none⟩ n c vs (by omega) (fun j v hv => ?_)
      rw [add_none, cell_of (by rw [hw']; exact hb)]
      exact hcc j v hv
  | @sl l off _ ty cs hH hf =>
    obtain ⟨B, hB, _, hat⟩ := hc.obj l _ hH
    obtain ⟨vs, hvl, hcell, hcv⟩ := obj_stretch hat hf
    cases hu with
    | @sl _ _ _ _ c B' hB' h1 h2 h3 =>
      rw [hB] at hB'; cases hB'
      refine ⟨fun w' => rfl, ⟨_, _, rfl⟩, vs, by simp [hvl]; omega, fun w' hw' => ?_, hcv⟩
      refine run_firstCells_some (P := P) w' k n ⟨B.b, off, none⟩ n c vs hvl (fun j v hv => ?_)
      rw [add_none]
      have := hcell j v hv
      unfold World.cell? at this ⊢
      rw [hw']; exact this
  | nil =>
    have := cv_v hu
    subst this
    exact ⟨fun w' => rfl, ⟨_, _, rfl⟩, [], rfl, fun w' _ => by simp [Builtin.firstCells], by simp⟩

include hT

/-- append, where there is room, and where there is none. -/
theorem run_append {t t2 ty e : TypeId} (hok : (TT t).ok = true) (hoke : (TT e).ok = true) (hok2 : (TT t2).ok = true) (hu : (TT t).und = .slice e) (hu2 : ∃ e', (TT t2).und = .slice e' ∨ (TT t2).und = .string) {w : World} {base : Option Addr} {sLen sCap n : Nat} {u : Value} {olds news : Array Value}
    (hlen : ∀ w', (Builtin.lenOf u).run P w' = .ok n w') (hnews : ∀ w', w'.heap = w.heap → (Builtin.firstCells (TT e).size n u).run P w' = .ok news w') (holds : ∀ w', w'.heap = w.heap → (Builtin.firstCells (TT e).size sLen (.slice base sLen sCap)).run P w' = .ok olds w')
    (hb : (sLen + n) * (TT e).bytes ≤ 140737488355328) (hm : sLen + n ≤ 9223372036854775807) :
    (Builtin.append_ #[t, t2] ty #[.slice base sLen sCap, u]).run P w =
      if sLen + n ≤ sCap then (match base with | some a => (storeCells (a.add (sLen * (TT e).size)) news.toList).run P w | none => .ok () w).andThen fun _ w => .ok (.slice base (sLen + n) sCap) w
      else .ok (.slice (some ⟨w.heap.size, 0, none⟩) (sLen + n) (grownCap w (sLen + n) sCap e)) (w.drew.alloc (.cells (olds ++ news ++ Builtin.zeroCells (TT e).zero.cells (grownCap w (sLen + n) sCap e - (sLen + n))) e)) := by
  obtain ⟨f, hf, hf1, hf2, hf3⟩ := (hT e hoke).info
  have hinfo : ∀ w', (typeInfo e).run P w' = .ok f w' := fun w' => by simp [typeInfo, hf]
  have hn0 := hnews w rfl
  have hl0 := hlen w
  by_cases hroom : sLen + n ≤ sCap
  · rw [if_pos hroom]
    obtain ⟨e', h2 | h2⟩ := hu2 <;>
      (simp only [Builtin.append_, Sem.run_bind, Sem.run_pure, (hT t hok).run_und w, hu, (hT t2 hok2).run_und w, h2, (hT e hoke).run_size w, hl0, hn0, Result.andThen, if_pos hroom, List.getElem?_toArray, List.getElem?_cons_zero, List.getElem?_cons_succ, Bool.false_eq_true, if_false, Bool.not_false, if_true]
       cases base <;> simp <;> rfl)
  · rw [if_neg hroom]
    have hfit := growslice_fits (need := sLen + n) (old := sCap) (bytes := (TT e).bytes) (by omega) hb
    have h63 : ¬ (((sLen + n : Nat) : Int) > IntKind.i64.max) := by simp [IntKind.max, IntKind.signed, IntKind.bits]; omega
    have hfit' : ¬ (Builtin.nextslicecap (sLen + n) sCap * f.bytes > 2 ^ 48) := by rw [hf3]; omega
    have hn' := hnews w.drew rfl
    have ho' := holds w.drew rfl
    have hask : ∀ m w', (askRoom m).run P w' = .ok () w' := fun m w' => by unfold askRoom; split <;> simp [mark, Sem.run]
    have hch : (choose (.appendCap (sLen + n) sCap e)).run P w = .ok (grownCap w (sLen + n) sCap e) w.drew := by simp only [choose, Sem.run, Question.forced]; rfl
    have hlast : ∀ (cs : Array Value), (newRow e cs).run P w.drew = .ok ⟨w.heap.size, 0, none⟩ (w.drew.alloc (.cells cs e)) := fun cs => by simp only [newRow, newObj, Sem.run_bind, Sem.run, Result.andThen]; rfl
    obtain ⟨e', h2 | h2⟩ := hu2 <;>
      (simp only [Builtin.append_, Sem.run_bind, Sem.run_pure, (hT t hok).run_und w, hu, (hT t2 hok2).run_und w, h2, (hT e hoke).run_size w, hl0, Result.andThen, if_neg hroom, List.getElem?_toArray, List.getElem?_cons_zero, List.getElem?_cons_succ, Bool.false_eq_true, if_false, Bool.not_false, if_true, hinfo]
       rw [if_neg (by intro h; exact h63 h.1)]
       simp only [Sem.run_bind, Sem.run_pure, Result.andThen, hinfo, if_neg hfit', hch, hask, ho', hn', (hT e hoke).run_zero, hlast])
end
end Go.Ax
