/- The abstract layer, part 18: bytes and strings. -/
import Derived.Test.YtmjookofajlcoaaAx17
import Derived.Laws.BytesString
namespace Go.Ax

theorem freeze_heap {w : World} {b k : Nat} {arr : Array Value} {t : TypeId} {fz : Nat × Nat} (h : w.heap[b]? = some (.cells arr t fz)) : ∃ fz', (w.freeze ⟨b, k, none⟩ 1).heap[b]? = some (.cells arr t fz') := by
  have hb : b < w.heap.size := (Array.getElem?_eq_some_iff.1 h).1
  have he : w.heap[b] = .cells arr t fz := (Array.getElem?_eq_some_iff.1 h).2
  simp only [World.freeze, Nat.one_ne_zero, if_false]
  rw [Array.getElem?_eq_getElem (by simpa using hb), Array.getElem_modify_self]
  rw [he]
  exact ⟨_, rfl⟩
theorem freeze_other {w : World} {b k x : Nat} (h : x ≠ b) : (w.freeze ⟨b, k, none⟩ 1).heap[x]? = w.heap[x]? := by
  simp only [World.freeze, Nat.one_ne_zero, if_false]
  rw [Array.getElem?_modify, if_neg (fun e => h e.symm)]
theorem freeze_size {w : World} {b k : Nat} : (w.freeze ⟨b, k, none⟩ 1).heap.size = w.heap.size := by
  simp [World.freeze]
theorem freeze_rest {w : World} {a : Addr} : (w.freeze a 1).os = w.os ∧ (w.freeze a 1).tape = w.tape ∧ (w.freeze a 1).output = w.output := ⟨rfl, rfl, rfl⟩

/-- A block that is owned, frozen, and marked. -/
theorem Conc.freeze_mark {ρ : Rho} {I : Imm} {w : World} {H : AHeap} (hc : Conc ρ I w H) {l k : Nat} {t : TypeId} {cs : List AV} {B : Blk} (hl : H.get l = some (.cells t cs)) (hBl : ρ l = some B) :
    ∃ I' arr, (∀ b a, I b = some a → I' b = some a) ∧ I' B.b = some arr ∧ cs.length ≤ arr.size ∧ (∀ (i : Nat) a u, cs[i]? = some a → arr[i]? = some u → CV ρ I a u) ∧ Conc ρ I' (w.freeze ⟨B.b, k, none⟩ 1) (H.del l) ∧ Ev ρ I w H ρ I' (w.freeze ⟨B.b, k, none⟩ 1) (H.del l) := by
  obtain ⟨I', B', arr, hB, hI, hIb, hcl, hv, hc', ev⟩ := hc.freeze hl
  rw [hBl] at hB; cases hB
  obtain ⟨t', fz, harr⟩ := hc'.imm _ _ hIb
  refine ⟨I', arr, hI, hIb, hcl, hv, ⟨hc'.inj, hc'.dom, fun x o hx => ?_, fun b a hb => ?_⟩, ⟨ev.rho, ev.imm, freeze_rest.1.trans ev.os, freeze_rest.2.1.trans ev.tape, freeze_rest.2.2.trans ev.output, by rw [freeze_size]; exact ev.size, fun b hb hn => ?_, ev.own, ev.next⟩⟩
  · obtain ⟨C, hC, hIC, hat⟩ := hc'.obj x o hx
    refine ⟨C, hC, hIC, ObjAt.mono hat (fun _ _ h => h) (fun _ _ h => h) (freeze_other fun e => ?_)⟩
    rw [e, hIb] at hIC
    cases hIC
  · obtain ⟨t2, fz2, h2⟩ := hc'.imm b a hb
    by_cases e : b = B.b
    · subst e
      obtain ⟨fz3, h3⟩ := freeze_heap (k := k) h2
      exact ⟨t2, fz3, h3⟩
    · exact ⟨t2, fz2, (freeze_other e).trans h2⟩
  · refine (freeze_other fun e => hn ⟨l, B, hBl, e.symm, by simp [hl]⟩).trans (ev.blk b hb hn)

section
variable {P : Program} {o : Oper} {T : Fr} {H : AHeap} {TT : Nat → TI} (hT : TOk P TT)
include hT

/-- Bytes of a constant: their own block, never written again. -/
theorem AStepD.convert_bytes_own {t e : TypeId} {x : Operand} {l n : Nat} {ty : TypeId} {cs : List AV} (ho : o.op = .convert t t x) (hx : aev T x = .sl l 0 n 1) (hok : (TT t).ok = true) (hu : (TT t).und = .slice e) (hoke : (TT e).ok = true) (hue : (TT e).und = .int .u8)
    (hH : H.get l = some (.cells ty cs)) (hl : cs.length = n) : AStepD P o T H (.vec n cs) (H.del l) := by
  refine AStep.of_run fun ρ I w a hc ht => ?_
  have hv := aev_eq ht hx
  generalize he : a.eval x = u at hv
  cases hv with
  | @sl _ _ _ _ c B hB hlc hmc hsz =>
    obtain ⟨B', hB', hIB, arr0, harr0, hasz0, hcl0, hacv0⟩ := hc.obj l _ hH
    rw [hB] at hB'; cases hB'
    obtain ⟨I', arr, hI, hIb, hcl, hv, hc', ev⟩ := hc.freeze_mark (k := arr0.size) hH hB
    refine ⟨.slice (some ⟨B.b, 0, none⟩) n c, _, _, ρ, I', _, ?_, ⟨rfl, rfl⟩, ?_, hc', ev⟩
    · have hsh : w.shape? B.b = some (ty, arr0.size) := by simp [World.shape?, harr0]
      simp [execOp, ho, he, convert, (hT t hok).run_und w, (hT e hoke).run_und w, hu, hue, markStringish, hsh]
    · obtain ⟨t2, fz2, h2⟩ := hc'.imm _ _ hIb
      refine .vec (arr := arr) (vs := arr.toList.take n) hlc hmc hIb (by simp; omega) (fun i u hu => ?_) (fun i z u hz hu => ?_)
      · rw [List.getElem?_take] at hu
        split at hu
        · simpa using hu
        · cases hu
      · rw [List.getElem?_take] at hu
        split at hu
        · exact (hv i z u hz (by simpa using hu)).mono (fun _ _ h => h) hI
        · cases hu

omit hT in
theorem foldl_push (bs : List UInt8) (s : ByteArray) : (bs.map fun x => ((x.toNat : Nat) : Int)).foldl (fun r n => r.push (UInt8.ofNat n.toNat)) s = ⟨s.data ++ bs.toArray⟩ := by
  induction bs generalizing s with
  | nil => simp
  | cons b r ih =>
    simp only [List.map_cons, List.foldl_cons]
    rw [ih]
    simp [ByteArray.push]

omit hT in
/-- Cells that are bytes. -/
theorem cvs_bytes {ρ : Rho} {I : Imm} {bs : List UInt8} {vs : List Value} (hl : vs.length = bs.length) (h : ∀ (i : Nat) a u, (bs.map fun x => AV.v (.int .u8 (x.toNat : Int)))[i]? = some a → vs[i]? = some u → CV ρ I a u) : vs = (bs.map fun x => ((x.toNat : Nat) : Int)).map (Value.int .u8) := by
  apply List.ext_getElem?
  intro i
  by_cases hi : i < bs.length
  · have := h i (.v (.int .u8 (bs[i].toNat : Int))) vs[i] (by simp [hi]) (by simp [hl, hi])
    have := cv_v this
    simp [hl, hi, this]
  · rw [List.getElem?_eq_none (by omega), List.getElem?_eq_none (by simp; omega)]

theorem AStepD.bytes_str {t t2 e : TypeId} {x : Operand} {n : Nat} {bs : List UInt8} {ys : List AV} {z : AV} (ho : o.op = .convert t t2 x) (hx : aev T x = z) (hsrc : Src H 1 z n ys) (hys : ys = bs.map fun x => AV.v (.int .u8 (x.toNat : Int))) (hn : bs.length = n) (hok : (TT t).ok = true) (hok2 : (TT t2).ok = true)
    (hu : (TT t).und = .slice e) (hoke : (TT e).ok = true) (hue : (TT e).und = .int .u8) (hu2 : (TT t2).und = .string) : AStepD P o T H (.v (.string ⟨bs.toArray⟩)) H := by
  refine .of_pure fun ρ I w a hc ht => ⟨_, ?_, .v _⟩
  have hv := aev_eq ht hx
  generalize he : a.eval x = u at hv
  have fin : ∀ (p : Option Addr) (c : Nat), u = .slice p n c → (p = none → n = 0) → (∀ q, p = some q → ∃ vs : List Value, vs.length = bs.length ∧ (∀ (i : Nat) a u, ys[i]? = some a → vs[i]? = some u → CV ρ I a u) ∧ ∀ (j : Nat) v, vs[j]? = some v → w.cell? (q.add j) = some v) →
      (execOp a.eval o).run P w = .ok (.value (.string ⟨bs.toArray⟩)) w := by
    rintro p c rfl hp hq
    have hcv := run_convert_bytes_string (P := P) w t t2 e p n c (hu ▸ (hT t hok).und) (hue ▸ (hT e hoke).und) (hu2 ▸ (hT t2 hok2).und)
    simp only [execOp, ho, Sem.run_bind, he, hcv]
    cases p with
    | none =>
      obtain rfl : bs = [] := by have := hp rfl; cases bs with | nil => rfl | cons => simp at hn; omega
      simp [Conv.bytesToString, Result.andThen]
      rfl
    | some q =>
      obtain ⟨vs, h1, h2, h3⟩ := hq q rfl
      have h4 := run_loadCells_list (P := P) (w := w) q vs h3
      rw [cvs_bytes h1 (hys ▸ h2)] at h4
      have h5 := run_bytesToString (P := P) w q n c (bs.map fun x => ((x.toNat : Nat) : Int)) (by
        rw [List.length_map, List.length_map, hn] at h4
        exact h4)
      rw [h5, foldl_push]
      simp [Result.andThen]
  have hyl : ys.length = bs.length := by simp [hys]
  cases hsrc with
  | vec =>
    cases hv with
    | @vec0 p c => exact fin p c rfl (fun _ => rfl) fun q _ => ⟨[], hyl, by simp, by simp⟩
    | @vec _ c _ b off arr vs hn' hm hI hl hcc hvv =>
      obtain ⟨t', fz, hb⟩ := hc.imm b arr hI
      refine fin _ c rfl (by simp) fun q hq => ⟨vs, by omega, hvv, fun j v hj => ?_⟩
      cases hq
      rw [add_none, cell_of hb]
      exact hcc j v hj
  | @sl l off _ ty cs hH hf =>
    obtain ⟨B, hB, _, hat⟩ := hc.obj l _ hH
    obtain ⟨vs, hvl, hcell, hcv⟩ := obj_stretch hat hf
    cases hv with
    | @sl _ _ _ _ c B' hB' h1 h2 h3 =>
      rw [hB] at hB'; cases hB'
      refine fin _ c rfl (by simp) fun q hq => ⟨vs, by omega, hcv, fun j v hj => ?_⟩
      cases hq
      rw [add_none]
      exact hcell j v hj
  | nil =>
    have := cv_v hv
    subst this
    exact fin _ _ rfl (fun _ => rfl) (by simp)
end
end Go.Ax
