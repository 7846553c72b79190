/- The abstract layer, part 32: contracts of the kit's shelf, as abstract calls. -/
import Derived.Test.YtmjookofajlcoaaAx31
import Derived.Below
import Derived.Sort.Row
import Derived.Sort.Grow
namespace Go.Ax
open Go
variable {md : Md}

theorem Conc.below {ρ : Rho} {I : Imm} {w w' : World} {H : AHeap} (hc : Conc ρ I w H) (hb : RowKit.Below w.heap.size w w') : Conc ρ I w' H where
  inj := hc.inj
  dom := hc.dom
  obj l x h := by
    obtain ⟨B, hB, hIB, hO⟩ := hc.obj l x h
    exact ⟨B, hB, hIB, hO.mono (fun _ _ h => h) (fun _ _ h => h) (hb.block _ hO.lt)⟩
  imm b arr h := by
    obtain ⟨t, fz, hh⟩ := hc.imm b arr h
    exact ⟨t, fz, (hb.block b (Array.getElem?_eq_some_iff.1 hh).1).trans hh⟩

theorem Ev.below {w w' : World} (ρ : Rho) (I : Imm) (H : AHeap) (hb : RowKit.Below w.heap.size w w') : Ev ρ I w H ρ I w' H where
  rho _ _ h := h
  imm _ _ h := h
  os := hb.os
  tape := hb.tape
  output := hb.output
  size := hb.size
  blk b h _ := hb.block b h
  own _ _ h := h
  next := Nat.le_refl _

/-- A contract that leaves all that lay as it lay. -/
theorem ACalls.of_below {P : Program} {f : FuncId} {args : List AV} {H : AHeap} {y : AV}
    (h : ∀ ρ I w vs, Conc ρ I w H → CVs ρ I args vs → Calls P f vs.toArray w fun e w' => ∃ u, e = .returned u ∧ CV ρ I y u ∧ RowKit.Below w.heap.size w w') :
    ACalls P f args H fun r H' => r = y ∧ H' = H :=
  fun ρ I w vs hc ha => (h ρ I w vs hc ha).mono fun _ _ ⟨u, he, hu, hb⟩ => ⟨u, y, ρ, I, H, he, ⟨rfl, rfl⟩, hu, hc.below hb, .below ρ I H hb⟩

/-- The same, where the answer lies in new memory that nobody writes any more: more blocks are held to be unchanging. -/
theorem ACalls.of_below_imm {P : Program} {f : FuncId} {args : List AV} {H : AHeap} {y : AV}
    (h : ∀ ρ I w vs, Conc ρ I w H → CVs ρ I args vs → Calls P f vs.toArray w fun e w' => ∃ u I', e = .returned u ∧ CV ρ I' y u ∧ RowKit.Below w.heap.size w w' ∧
      (∀ b a, I b = some a → I' b = some a) ∧ (∀ b a, I' b = some a → I b = none → w.heap.size ≤ b ∧ ∃ t fz, w'.heap[b]? = some (.cells a t fz))) :
    ACalls P f args H fun r H' => r = y ∧ H' = H := by
  intro ρ I w vs hc ha
  refine (h ρ I w vs hc ha).mono ?_
  rintro _ w' ⟨u, I', he, hu, hb, h1, h2⟩
  have hc' := hc.below hb
  refine ⟨u, y, ρ, I', H, he, ⟨rfl, rfl⟩, hu, ⟨hc.inj, hc.dom, fun l o ho => ?_, fun b a hba => ?_⟩, ⟨fun _ _ h => h, h1, hb.os, hb.tape, hb.output, hb.size, fun b hbb _ => hb.block b hbb, fun _ _ h => h, Nat.le_refl _⟩⟩
  · obtain ⟨B, hB, hI, hO⟩ := hc'.obj l o ho
    obtain ⟨B', hB', _, hO'⟩ := hc.obj l o ho
    rw [hB] at hB'; cases hB'
    refine ⟨B, hB, ?_, hO.mono (fun _ _ h => h) h1 rfl⟩
    cases hi : I' B.b with
    | none => rfl
    | some a => have := (h2 _ _ hi hI).1; have := hO'.lt; omega
  · cases hi : I b with
    | none => exact (h2 b a hba hi).2
    | some a' =>
      have := h1 _ _ hi
      rw [hba] at this; cases this
      exact hc'.imm b a hi

theorem Conc.grow {ρ : Rho} {I : Imm} {w : World} {H : AHeap} (hc : Conc ρ I w H) (os : Array Obj) : Conc ρ I (Sort.grow w os) H ∧ Ev ρ I w H ρ I (Sort.grow w os) H := by
  have hb : RowKit.Below w.heap.size w (Sort.grow w os) := ⟨rfl, rfl, rfl, by simp [Sort.grow], fun k hk => by simp only [Sort.grow]; rw [Array.getElem?_append_left hk]⟩
  exact ⟨hc.below hb, .below ρ I H hb⟩

/-- A row of plain values, laid anew. -/
theorem Conc.putRow {ρ : Rho} {I : Imm} {w : World} {H : AHeap} (hc : Conc ρ I w H) {l : Nat} {B : Blk} {t : TypeId} {F G : List Value} (hl : H.get l = some (.cells t (F.map .v))) (hB : ρ l = some B) (hFG : G.length = F.length) (n : Nat) (os : Array Obj) :
    Conc ρ I (Sort.grow (Sort.putRow id (Sort.ahead w n) B.b 0 G.toArray) os) (H.set l (.cells t (G.map .v))) ∧ Ev ρ I w H ρ I (Sort.grow (Sort.putRow id (Sort.ahead w n) B.b 0 G.toArray) os) (H.set l (.cells t (G.map .v))) := by
  obtain ⟨B', hB', _, arr, h1, h2, h3, h4⟩ := hc.obj l _ hl
  rw [hB] at hB'; cases hB'
  have hb : (Sort.putRow id (Sort.ahead w n) B.b 0 G.toArray).heap[B.b]? = some (.cells (Sort.putCells id 0 G.toArray arr) t (0, 0)) := by
    simp only [Sort.putRow, Sort.mapBlock, Sort.ahead, Array.getElem?_modify, if_true, h1, Option.map_some]
    rfl
  obtain ⟨a1, a2⟩ := hc.set (w' := Sort.putRow id (Sort.ahead w n) B.b 0 G.toArray) (o' := .cells t (G.map .v)) hl hB (by simp [Sort.putRow, Sort.mapBlock, Sort.ahead])
    (fun k hk => by simp only [Sort.putRow, Sort.mapBlock, Sort.ahead, Array.getElem?_modify]; rw [if_neg (fun e => hk e.symm)])
    ⟨_, hb, by simp [Sort.putCells, h2], by simp only [List.length_map] at h3 ⊢; simp [Sort.putCells]; omega, fun i x u hx hu => by
      simp only [List.getElem?_map] at hx
      cases hg : G[i]? with
      | none => rw [hg] at hx; cases hx
      | some g =>
        rw [hg] at hx
        simp only [Option.map_some, Option.some.injEq] at hx
        subst hx
        have hi : i < G.length := (List.getElem?_eq_some_iff.1 hg).1
        simp only [Sort.putCells, Array.getElem?_mapIdx] at hu
        cases ha : arr[i]? with
        | none => rw [ha] at hu; cases hu
        | some q =>
          rw [ha] at hu
          simp [hi] at hu
          have hgi : G[i] = g := (List.getElem?_eq_some_iff.1 hg).2
          rw [hgi] at hu
          subst hu
          exact .v _⟩ rfl rfl rfl
  obtain ⟨b1, b2⟩ := a1.grow os
  exact ⟨b1, a2.trans b2⟩
end Go.Ax
