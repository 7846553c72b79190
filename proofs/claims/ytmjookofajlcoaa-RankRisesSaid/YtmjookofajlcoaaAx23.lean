/- The abstract layer, part 23: an operation whose new block is frozen at once, so that it leaves the heap as it was. -/
import Derived.Test.YtmjookofajlcoaaAx22
namespace Go.Ax
variable {md : Md}

/-- A later world still bears the older heap, if all of it is there as it was. -/
theorem Conc.back {ρ ρ' : Rho} {I I' : Imm} {w w' : World} {H H' : AHeap} (hc : Conc ρ I w H) (hc' : Conc ρ' I' w' H') (ev : Ev ρ I w H ρ' I' w' H') (hs : ∀ l o, H.get l = some o → H'.get l = some o) : Conc ρ I' w' H ∧ Ev ρ I w H ρ I' w' H := by
  refine ⟨⟨hc.inj, hc.dom, ?_, hc'.imm⟩, ⟨fun _ _ h => h, ev.imm, ev.os, ev.tape, ev.output, ev.size, ev.blk, fun b _ h => h, Nat.le_refl _⟩⟩
  intro l o hl
  obtain ⟨B, hB, _, hat⟩ := hc.obj l o hl
  obtain ⟨B', hB', hI', hat'⟩ := hc'.obj l o (hs l o hl)
  have := ev.rho l B hB
  rw [hB'] at this
  cases this
  refine ⟨B, hB, hI', ?_⟩
  cases o with
  | cells t cs =>
    obtain ⟨arr, h1, h2, h3, h4⟩ := hat'
    obtain ⟨arr0, g1, g2, g3, g4⟩ := hat
    refine ⟨arr, h1, h2, h3, fun i a u ha hu => ?_⟩
    have hi : i < arr0.size := Nat.lt_of_lt_of_le (List.getElem?_eq_some_iff.1 ha).1 g3
    exact (g4 i a arr0[i] ha (by simp [hi])).restrict ev.rho (h4 i a u ha hu)
  | map es =>
    obtain ⟨ents, clock, h1, h2, h3, h4, h5⟩ := hat'
    obtain ⟨ents0, clock0, g1, g2, g3, g4, g5⟩ := hat
    refine ⟨ents, clock, h1, h2, fun i e en he hn => ⟨(h3 i e en he hn).1, ?_⟩, h4, h5⟩
    have hi : i < ents0.size := by rw [g2]; exact (List.getElem?_eq_some_iff.1 he).1
    exact (g3 i e ents0[i] he (by simp [hi])).2.restrict ev.rho (h3 i e en he hn).2
  | obj o => exact hat'
  | lp rec cs =>
    exact ⟨hat'.1, fun i a ha => (hat.2 i a ha).restrict ev.rho (hat'.2 i a ha)⟩

theorem AStepD.frz_quiet {P : Program} {o : Oper} {T : Fr} {H H1 : AHeap} {x y : AV} {l : Nat} {t : TypeId} {cs : List AV} (h : AStepD P o T H x H1) (hl : H1.get l = some (.cells t cs)) (hf : Frz l cs x y) (hp : Plain y) (hk : Keep H (H1.del l)) : AStepD P o T H y H := by
  intro ρ I w a hc ht Q
  refine Oper.wpIn_mono ?_ (h ρ I w a hc ht Q)
  rintro a' w' ⟨u, z, ρ', I', H', ha, ⟨rfl, rfl⟩, hz, hc', ev⟩
  obtain ⟨I2, B, arr, hB, hI, hIb, hcl, hv, hc2, ev2⟩ := hc'.freeze hl
  have hy := (hf.cv hB hI hIb hcl hv hz).plain (ρ' := ρ) hp
  obtain ⟨hc3, ev3⟩ := hc.back hc2 (ev.trans ev2) (fun k q hq => (hk.2 k (AHeap.get_lt hc hq)).trans hq)
  exact ⟨u, y, ρ, I2, H, ha, ⟨rfl, rfl⟩, hy, hc3, ev3⟩

/-- A slice of one element that is only read. -/
theorem AStepD.buildSlice1_vec {P : Program} {o : Oper} {T : Fr} {H : AHeap} {TT : Nat → TI} (hT : TOk P TT) {t e : TypeId} {x : Operand} {z : AV} {cs : List AV} (ho : o.op = .buildSlice t 1 #[(0, x)]) (hok : (TT t).ok = true) (hu : (TT t).und = .slice e) (hoke : (TT e).ok = true) {k : Nat} (hk : (TT e).size = k) (hz : aev T x = z) (hcs : z.cells = cs)
    (hl : cs.length = k) (hbig : k ≤ 16777216) (hone : ∀ y ∈ cs, y.one = true) (hp : ∀ y ∈ cs, Plain y) : AStepD P o T H (.vec 1 cs) H := by
  refine AStepD.frz_quiet (.buildSlice1 hT ho hok hu hoke hk hz hcs hl hbig hone) (AHeap.get_new_same _ _) ?_ (.vec hp) ?_
  · have := Frz.sl (l := H.next) (cs := cs) (off := 0) (len := 1) (k := k) (by omega)
    rwa [List.drop_zero, Nat.one_mul, List.take_of_length_le (by omega)] at this
  · exact Keep.del (Keep.new (Keep.refl _)) (Nat.le_refl _)
/-- A slice is no longer than a slice can be. -/
theorem IsSl.le {ρ : Rho} {I : Imm} {x : AV} {k : Nat} {u : Value} (h : IsSl x k) (hx : CV ρ I x u) : k ≤ maxLen := by
  cases h with
  | nil => exact Nat.zero_le _
  | sl => cases hx with | sl h hl hm hs => exact Nat.le_trans hl hm
  | slc => cases hx with | slc h hl hc hm hs => exact Nat.le_trans (Nat.le_trans hl hc) hm
  | slx => cases hx with | slx h hl hm hs => exact Nat.le_trans hl hm
  | vec => cases hx with
    | vec0 => exact Nat.zero_le _
    | vec hn hm => exact Nat.le_trans hn hm
theorem AW.len {P : Program} {c : Code} {Q : APost} {T : Fr} {H : AHeap} {n s k : Nat} {x : AV} (hx : look T s = x) (hs : IsSl x k) (h : k ≤ maxLen → AW md P c Q T H n) : AW md P c Q T H n :=
  fun ρ I w a hc ht hn hd => h (hs.le (hx ▸ ht s)) ρ I w a hc ht hn hd
/- Short names for what every walk says. -/
theorem z1 {α : Type} {a d : α} {l : List α} : (a :: l).getD 0 d = a := rfl
theorem z2 {α : Type} {a d : α} {l : List α} {i : Nat} : (a :: l).getD (i + 1) d = l.getD i d := List.getD_cons_succ
theorem z3 (H : AHeap) {k l : Nat} (o : AObj) (h : k = l) : (H.set l o).get k = some o := AHeap.get_set_eq H o h
theorem z4 (H : AHeap) {l k : Nat} (o : AObj) (h : k ≠ l) : (H.set l o).get k = H.get k := AHeap.get_set_ne H o h
theorem z5 (H : AHeap) {k : Nat} (o : AObj) (h : k = H.next) : (H.new o).get k = some o := AHeap.get_new_eq H o h
theorem z6 (H : AHeap) {k : Nat} (o : AObj) (h : k ≠ H.next) : (H.new o).get k = H.get k := AHeap.get_new_ne H o h
theorem z7 (H : AHeap) {k l : Nat} (h : k = l) : (H.del l).get k = none := AHeap.get_del_eq H h
theorem z8 (H : AHeap) {l k : Nat} (h : k ≠ l) : (H.del l).get k = H.get k := AHeap.get_del_ne H h
theorem za (H : AHeap) (l : Nat) (o : AObj) : (H.set l o).next = H.next := rfl
theorem zb (H : AHeap) (l : Nat) : (H.del l).next = H.next := rfl
theorem zc (H : AHeap) (o : AObj) : (H.new o).next = H.next + 1 := rfl
end Go.Ax
