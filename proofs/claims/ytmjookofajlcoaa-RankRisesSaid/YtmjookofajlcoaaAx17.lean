/- The abstract layer, part 17: loops over a frame that is spelled out. -/
import Derived.Test.YtmjookofajlcoaaAx16
namespace Go.Ax
variable {md : Md}

theorem Keep.get {H H' : AHeap} (h : Keep H H') {l : Nat} {o : AObj} (hl : H.get l = some o) (hlt : l < H.next) : H'.get l = some o := (h.2 l hlt).trans hl
theorem take_next {α : Type} (ms : List α) (i : Nat) (h : i < ms.length) : ms.take (i + 1) = ms.take i ++ [ms[i]] := by
  rw [List.take_add_one, List.getElem?_eq_getElem h]
  rfl

theorem SubT.refl (T : Fr) : ∀ {L : List Nat}, SubT T (L.map fun s => (s, look T s))
  | [] => .nil T
  | _ :: _ => .cons_eq rfl (SubT.refl T)
theorem SubT.trans {A B C : Fr} (h : SubT A B) (k : SubT B C) (hk : ∀ p ∈ C, ∃ q ∈ B, q.1 = p.1 ∧ look B p.1 = q.2) : SubT A C := by
  intro p hp ρ I u hu
  obtain ⟨q, hq, h1, h2⟩ := hk p hp
  refine k p hp ρ I u ?_
  rw [h2]
  refine h q hq ρ I u ?_
  rw [h1]
  exact hu

/-- A loop whose round begins with a frame F x over a heap of which I x holds. -/
theorem AW.loop_at {P : Program} {c : Code} {Q : APost} {T : Fr} {H : AHeap} {n : Nat} {ι : Type} (F : ι → Fr) (I : ι → AHeap → Prop) (m : ι → Nat) (x0 : ι) (h0 : SubT T (F x0)) (hI : I x0 H)
    (round : ∀ x H, I x H → AW md P c (AThen (fun T' H' => ∃ x', m x' < m x ∧ SubT T' (F x') ∧ I x' H') Q) (F x) H n) : AW md P (.loop c) Q T H n := by
  refine AW.loop (fun k T' H' => ∃ x, m x = k ∧ SubT T' (F x) ∧ I x H') (m x0) ⟨x0, rfl, h0, hI⟩ ?_
  rintro k T' H' ⟨x, rfl, hs, hx⟩
  refine AW.sub hs ((round x H' hx).mono ?_)
  intro e T2 H2 q
  cases e with
  | normal =>
    obtain ⟨x', h1, h2, h3⟩ := q
    exact ⟨m x', h1, x', rfl, h2, h3⟩
  | _ => exact q
end Go.Ax
