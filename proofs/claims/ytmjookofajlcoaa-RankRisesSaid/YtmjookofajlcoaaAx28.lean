/- The abstract layer, part 28: an append whose outcome is only read. -/
import Derived.Test.YtmjookofajlcoaaAx27
namespace Go.Ax
variable {md : Md}

theorem Conc.back2 {ρ ρ' : Rho} {I I' : Imm} {w w' : World} {H H' H2 : AHeap} (hc : Conc ρ I w H) (hc' : Conc ρ' I' w' H') (ev : Ev ρ I w H ρ' I' w' H') (hs : ∀ l o, H2.get l = some o → H'.get l = some o) (hsub : ∀ l o, H2.get l = some o → H.get l = some o) (hnx : H2.next = H.next) :
    Conc ρ I' w' H2 ∧ Ev ρ I w H ρ I' w' H2 := by
  have some_of : ∀ l, (H2.get l).isSome → (H.get l).isSome := by
    intro l h
    obtain ⟨o, ho⟩ := Option.isSome_iff_exists.1 h
    rw [hsub l o ho]; rfl
  refine ⟨⟨fun l l' B B' h1 h2 h3 h4 he => hc.inj l l' B B' h1 h2 (some_of _ h3) (some_of _ h4) he, fun l B h => by rw [hnx]; exact hc.dom l B h, ?_, hc'.imm⟩,
    ⟨fun _ _ h => h, ev.imm, ev.os, ev.tape, ev.output, ev.size, ev.blk, fun b _ hn ⟨l, B, h1, h2, h3⟩ => hn ⟨l, B, h1, h2, some_of _ h3⟩, by rw [hnx]; exact Nat.le_refl _⟩⟩
  intro l o hl
  obtain ⟨B, hB, _, hat⟩ := hc.obj l o (hsub l o hl)
  obtain ⟨B', hB', hI', hat'⟩ := hc'.obj l o (hs l o hl)
  have := ev.rho l B hB
  rw [hB'] at this
  cases this
  refine ⟨B, hB, hI', ?_⟩
  cases o with
  | cells t cs =>
    obtain ⟨arr, h1, h2, h3, h4⟩ := hat'
    obtain ⟨arr0, g1, g2, g3, g4⟩ := hat
    refine ⟨arr, h1, h2, h3, fun i a u ha hu => ?_⟩
    have hi : i < arr0.size := Nat.lt_of_lt_of_le (List.getElem?_eq_some_iff.1 ha).1 g3
    exact (g4 i a arr0[i] ha (by simp [hi])).restrict ev.rho (h4 i a u ha hu)
  | map es =>
    obtain ⟨ents, clock, h1, h2, h3, h4, h5⟩ := hat'
    obtain ⟨ents0, clock0, g1, g2, g3, g4, g5⟩ := hat
    refine ⟨ents, clock, h1, h2, fun i e en he hn => ⟨(h3 i e en he hn).1, ?_⟩, h4, h5⟩
    have hi : i < ents0.size := by rw [g2]; exact (List.getElem?_eq_some_iff.1 he).1
    exact (g3 i e ents0[i] he (by simp [hi])).2.restrict ev.rho (h3 i e en he hn).2
  | obj o => exact hat'
  | lp rec cs =>
    exact ⟨hat'.1, fun i a ha => (hat.2 i a ha).restrict ev.rho (hat'.2 i a ha)⟩

theorem AStepD.frz_sub {P : Program} {o : Oper} {T : Fr} {H H1 H2 : AHeap} {x y : AV} {l : Nat} {t : TypeId} {cs : List AV} (h : AStepD P o T H x H1) (hl : H1.get l = some (.cells t cs)) (hf : Frz l cs x y) (hp : Plain y)
    (hk : (∀ l q, H.get l = some q → l < H.next) → ∀ k q, H2.get k = some q → (H1.del l).get k = some q) (hsub : ∀ l o, H2.get l = some o → H.get l = some o) (hnx : H2.next = H.next) : AStepD P o T H y H2 := by
  intro ρ I w a hc ht Q
  refine Oper.wpIn_mono ?_ (h ρ I w a hc ht Q)
  rintro a' w' ⟨u, z, ρ', I', H', ha, ⟨rfl, rfl⟩, hz, hc', ev⟩
  obtain ⟨I2, B, arr, hB, hI, hIb, hcl, hv, hc2, ev2⟩ := hc'.freeze hl
  have hy := (hf.cv hB hI hIb hcl hv hz).plain (ρ' := ρ) hp
  obtain ⟨hc3, ev3⟩ := hc.back2 hc2 (ev.trans ev2) (hk fun _ _ h => AHeap.get_lt hc h) hsub hnx
  exact ⟨u, y, ρ, I2, H2, ha, ⟨rfl, rfl⟩, hy, hc3, ev3⟩

theorem AStepD.lts {P : Program} {o : Oper} {T : Fr} {H H1 : AHeap} {x : AV} (k : (∀ l q, H.get l = some q → l < H.next) → AStepD P o T H x H1) : AStepD P o T H x H1 :=
  fun ρ I w a hc ht Q => k (fun _ _ h => AHeap.get_lt hc h) ρ I w a hc ht Q

section
variable {P : Program} {o : Oper} {T : Fr} {H : AHeap} {TT : Nat → TI} (hT : TOk P TT)
include hT
theorem AStepD.append_vec {t t2 e : TypeId} {x z : Operand} {l len n k : Nat} {ys cs : List AV} {ty : TypeId} {src : AV} {m bk : Nat} {zs : List AV} (ho : o.op = .call { callee := .builtin .append, args := #[x, z], argTypes := #[t, t2] }) (hx : aev T x = .sl l 0 len k) (hz : aev T z = src) (hok : (TT t).ok = true) (hu : (TT t).und = .slice e) (hok2 : (TT t2).ok = true) (hu2 : (TT t2).und = .slice e)
    (hoke : (TT e).ok = true) (hk : (TT e).size = k) (hbk : Nat.ble (TT e).bytes bk = true) (hH : H.get l = some (.cells ty cs)) (hte : ty = e) (hcs : cs.length = len * k) (hsrc : Src H k src n ys) (hys : ys.length = n * k) (hone : ∀ z ∈ ys, z.one = true)
    (hb : (len + n) * bk ≤ 140737488355328) (hm : len + n ≤ 9223372036854775807) (hmm : len + n = m) (hzs : cs ++ ys = zs) (hp : ∀ z ∈ zs, Plain z) :
    AStepD P o T H (.vec m zs) (H.del l) := by
  refine AStepD.lts fun hlt => ?_
  have hln := hlt _ _ hH
  have hzl : zs.length = m * k := by rw [← hzs, List.length_append, hcs, hys, ← Nat.add_mul, hmm]
  refine AStepD.frz_sub (l := H.next) (AStepD.append' hT ho hx hz hok hu hok2 hu2 hoke hk hbk hH hte hcs hsrc hys hone hb hm hmm hzs) (t := e) (cs := zs) ?_ ?_ (.vec hp) ?_ ?_ rfl
  · rw [AHeap.get_del_ne _ (by omega), AHeap.get_new_same]
  · have := Frz.sl (l := H.next) (cs := zs) (off := 0) (len := m) (k := k) (by omega)
    rwa [List.drop_zero, List.take_of_length_le (by omega)] at this
  · intro _ k' q hq
    by_cases e : k' = l
    · subst e; rw [AHeap.get_del_same] at hq; cases hq
    · rw [AHeap.get_del_ne _ e] at hq
      have := hlt _ _ hq
      rw [AHeap.get_del_ne _ (by omega), AHeap.get_del_ne _ e, AHeap.get_new_ne _ _ (by omega)]
      exact hq
  · intro k' q hq
    by_cases e : k' = l
    · subst e; rw [AHeap.get_del_same] at hq; cases hq
    · rwa [AHeap.get_del_ne _ e] at hq
theorem AStepD.append_nil_vec {t t2 e : TypeId} {x z : Operand} {n k bk : Nat} {ys : List AV} {src : AV} (ho : o.op = .call { callee := .builtin .append, args := #[x, z], argTypes := #[t, t2] }) (hx : aev T x = .v (.slice none 0 0)) (hz : aev T z = src) (hok : (TT t).ok = true) (hu : (TT t).und = .slice e) (hok2 : (TT t2).ok = true) (hu2 : (TT t2).und = .slice e)
    (hoke : (TT e).ok = true) (hk : (TT e).size = k) (hbk : Nat.ble (TT e).bytes bk = true) (hsrc : Src H k src n ys) (hys : ys.length = n * k) (hn : 0 < n) (hb : n * bk ≤ 140737488355328) (hm : n ≤ 9223372036854775807) (hp : ∀ z ∈ ys, Plain z) :
    AStepD P o T H (.vec n ys) H := by
  refine AStepD.frz_quiet (AStepD.append_nil' hT ho hx hz hok hu hok2 hu2 hoke hk hbk hsrc hys hn hb hm) (AHeap.get_new_same _ _) ?_ (.vec hp) (Keep.del (Keep.new (Keep.refl _)) (Nat.le_refl _))
  have := Frz.sl (l := H.next) (cs := ys) (off := 0) (len := n) (k := k) (by omega)
  rwa [List.drop_zero, List.take_of_length_le (by omega)] at this
end

/-- What a variable holds is told anew. -/
theorem Conc.retell {ρ : Rho} {I : Imm} {w : World} {H : AHeap} (hc : Conc ρ I w H) {X : Nat} {t : TypeId} {cs bs : List AV} (hX : H.get X = some (.cells t cs)) (hl : bs.length = cs.length)
    (hr : ∀ (i : Nat) a b u, cs[i]? = some a → bs[i]? = some b → CV ρ I a u → CV ρ I b u) : Conc ρ I w (H.set X (.cells t bs)) := by
  refine ⟨fun x y B C h1 h2 h3 h4 he => ?_, hc.dom, fun x o hx => ?_, hc.imm⟩
  · refine hc.inj x y B C h1 h2 ?_ ?_ he
    · by_cases e : x = X
      · subst e; simp [hX]
      · rwa [AHeap.get_set_ne _ _ e] at h3
    · by_cases e : y = X
      · subst e; simp [hX]
      · rwa [AHeap.get_set_ne _ _ e] at h4
  · by_cases e : x = X
    · subst e
      rw [AHeap.get_set_same] at hx
      cases hx
      obtain ⟨B, hB, hI, arr, h1, h2, h3, h4⟩ := hc.obj x _ hX
      refine ⟨B, hB, hI, arr, h1, h2, by omega, fun i z u hz hu => ?_⟩
      have hi : i < cs.length := by rw [← hl]; exact (List.getElem?_eq_some_iff.1 hz).1
      exact hr i cs[i] z u (List.getElem?_eq_getElem hi) hz (h4 i cs[i] u (List.getElem?_eq_getElem hi) hu)
    · rw [AHeap.get_set_ne _ _ e] at hx
      exact hc.obj x o hx
/-- A block is only read from now on, and so told of in a variable. -/
theorem AW.freeze_cell {P : Program} {c : Code} {Q : APost} {T : Fr} {H : AHeap} {n l X : Nat} {t tX : TypeId} {cs vs bs : List AV} (hl : H.get l = some (.cells t cs)) (hX : H.get X = some (.cells tX vs)) (hne : X ≠ l) (hlen : bs.length = vs.length)
    (hF : ∀ (i : Nat) a b, vs[i]? = some a → bs[i]? = some b → Frz l cs a b) (h : AW md P c Q T ((H.del l).set X (.cells tX bs)) n) : AW md P c Q T H n := by
  intro ρ I w a hc ht hn hd
  obtain ⟨I', B, arr, hB, hI, hIb, hcl, hv, hc', ev⟩ := hc.freeze hl
  have hX' : (H.del l).get X = some (.cells tX vs) := by rw [AHeap.get_del_ne _ hne]; exact hX
  have hc2 : Conc ρ I' w ((H.del l).set X (.cells tX bs)) := by
    refine ⟨fun x y B C h1 h2 h3 h4 he => ?_, hc'.dom, fun x o hx => ?_, hc'.imm⟩
    · refine hc'.inj x y B C h1 h2 ?_ ?_ he
      · by_cases e : x = X
        · subst e; simp [hX']
        · rwa [AHeap.get_set_ne _ _ e] at h3
      · by_cases e : y = X
        · subst e; simp [hX']
        · rwa [AHeap.get_set_ne _ _ e] at h4
    · by_cases e : x = X
      · subst e
        rw [AHeap.get_set_same] at hx
        cases hx
        obtain ⟨B2, hB2, hI2, _⟩ := hc'.obj x _ hX'
        obtain ⟨B3, hB3, _, arr3, h1, h2, h3, h4⟩ := hc.obj x _ hX
        rw [hB2] at hB3; cases hB3
        refine ⟨B2, hB2, hI2, arr3, h1, h2, by omega, fun i z u hz hu => ?_⟩
        have hi : i < vs.length := by rw [← hlen]; exact (List.getElem?_eq_some_iff.1 hz).1
        exact (hF i vs[i] z (List.getElem?_eq_getElem hi) hz).cv hB hI hIb hcl hv (h4 i vs[i] u (List.getElem?_eq_getElem hi) hu)
      · rw [AHeap.get_set_ne _ _ e] at hx
        exact hc'.obj x o hx
  exact wpIn_mono (h ρ I' w a hc2 (ht.mono ev.rho ev.imm) hn (hd.ev (ev.trans (Ev.shrink hX')))) fun _ _ _ f => f.of_ev (ev.trans (Ev.shrink hX'))
end Go.Ax
