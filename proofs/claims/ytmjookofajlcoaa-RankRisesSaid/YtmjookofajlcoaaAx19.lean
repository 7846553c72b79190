/- The abstract layer, part 19: literals whose parts lie one behind the other. -/
import Derived.Test.YtmjookofajlcoaaAx18
namespace Go.Ax
variable {md : Md}

def seqEnd (place : Nat → Option (Nat × Nat)) : Nat → List (Nat × AV) → Option Nat
  | off, [] => some off
  | off, (i, x) :: r =>
    match place i with
    | none => none
    | some (o, s) => bif Nat.beq o off && Nat.beq x.cells.length s then seqEnd place (off + s) r else none

theorem afill_seq {place : Nat → Option (Nat × Nat)} : ∀ (parts : List (Nat × AV)) (pre zs : List AV), seqEnd place pre.length parts = some (pre.length + zs.length) → afill place (pre ++ zs) parts = some (pre ++ parts.flatMap fun p => p.2.cells)
  | [], pre, zs, h => by
    simp only [seqEnd, Option.some.injEq] at h
    have : zs = [] := List.length_eq_zero_iff.1 (by omega)
    simp [afill, this]
  | (i, x) :: r, pre, zs, h => by
    have mono : ∀ (l : List (Nat × AV)) (o e : Nat), seqEnd place o l = some e → o ≤ e := by
      intro l
      induction l with
      | nil => intro o e h; simp [seqEnd] at h; omega
      | cons p l ih =>
        intro o e h
        obtain ⟨j, y⟩ := p
        simp only [seqEnd] at h
        split at h
        · cases h
        · rename_i o' s hp
          cases hb : (Nat.beq o' o && Nat.beq y.cells.length s) with
          | false => rw [hb] at h; cases h
          | true =>
            rw [hb] at h
            simp only [cond_true] at h
            have := ih _ _ h
            omega
    simp only [seqEnd] at h
    split at h
    · cases h
    · rename_i o s hp
      cases hb : (Nat.beq o pre.length && Nat.beq x.cells.length s) with
      | false => rw [hb] at h; cases h
      | true =>
        rw [hb] at h
        simp only [cond_true] at h
        simp only [Bool.and_eq_true] at hb
        have h1 := Nat.eq_of_beq_eq_true hb.1
        have h2 := Nat.eq_of_beq_eq_true hb.2
        subst h1
        have hle := mono _ _ _ h
        have h3 : x.cells.length ≤ zs.length := by omega
        simp only [afill, hp]
        rw [if_pos ⟨h2, by simp; omega⟩]
        have ho : over (pre ++ zs) pre.length x.cells = (pre ++ x.cells) ++ zs.drop x.cells.length := by
          simp only [over, List.take_left', List.append_assoc]
          rw [List.drop_append]
          simp
        rw [ho, afill_seq r (pre ++ x.cells) (zs.drop x.cells.length) (by
          rw [List.length_append, h2, h, List.length_drop]
          congr 1
          omega)]
        simp

theorem map_n {α β : Type} {f : α → β} : [].map f = [] := rfl
theorem map_c {α β : Type} {f : α → β} {x : α} {r : List α} {y : β} {ys : List β} (h : f x = y) (hr : r.map f = ys) : (x :: r).map f = y :: ys := by subst h; subst hr; rfl
theorem map_p {T : Fr} {i : Nat} {x : Operand} {r : List (Nat × Operand)} {y : AV} {ys : List (Nat × AV)} (h : aev T x = y) (hr : r.map (fun p => (p.1, aev T p.2)) = ys) : ((i, x) :: r).map (fun p => (p.1, aev T p.2)) = (i, y) :: ys := by subst h; subst hr; rfl
theorem cells_v (x : Value) : (AV.v x).cells = [.v x] := rfl
theorem cells_any : AV.any.cells = [.any] := rfl
theorem cells_ptr (l k : Nat) : (AV.ptr l k).cells = [.ptr l k] := rfl
theorem cells_ip (cs : List AV) : (AV.ip cs).cells = [.ip cs] := rfl
theorem cells_sl (l o n k : Nat) : (AV.sl l o n k).cells = [.sl l o n k] := rfl
theorem cells_vec (n : Nat) (cs : List AV) : (AV.vec n cs).cells = [.vec n cs] := rfl
theorem cells_map (l : Nat) : (AV.map l).cells = [.map l] := rfl
theorem cells_func (f : Fn) (cs : List AV) : (AV.func f cs).cells = [.func f cs] := rfl
theorem cells_agg (cs : List AV) : (AV.agg cs).cells = cs := rfl
theorem cells_iface (t : TypeId) (a : AV) : (AV.iface t a).cells = [.iface t a] := rfl

section
variable {P : Program} {o : Oper} {T : Fr} {H : AHeap} {TT : Nat → TI} (hT : TOk P TT)
include hT

theorem AStepD.build_seq {t : TypeId} {parts : Array (Nat × Operand)} {fs : Array Field} {ps : List (Nat × AV)} {cs : List AV} {k : Nat} (ho : o.op = .build t parts) (hok : (TT t).ok = true) (hu : (TT t).und = .struct fs) (hfs : ∀ f ∈ fs.toList, (TT f.type).ok = true)
    (hps : (parts.toList.map fun p => (p.1, aev T p.2)) = ps) (hk : (TT t).size = k) (hseq : seqEnd (placesOf TT fs) 0 ps = some k) (hcs : ps.flatMap (fun p => p.2.cells) = cs) (hone : ∀ x ∈ cs, x.one = true) : AStepD P o T H (.agg cs) H := by
  subst hcs
  refine .build hT ho hok hu hfs ?_ ?_
  · rw [hps]
    have hz : (AV.ofV (TT t).zero).length = k := by simp [AV.ofV, (hT t hok).zs, hk]
    have := afill_seq (place := placesOf TT fs) ps [] (AV.ofV (TT t).zero) (by simpa [hz] using hseq)
    simpa using this
  · rw [hps]
    intro p hp x hx
    exact hone x (List.mem_flatMap.2 ⟨p, hp, hx⟩)
theorem AStepD.build_arr_seq {t e : TypeId} {n : Nat} {parts : Array (Nat × Operand)} {ps : List (Nat × AV)} {cs : List AV} {k : Nat} (ho : o.op = .build t parts) (hok : (TT t).ok = true) (hu : (TT t).und = .array n e) (hoke : (TT e).ok = true)
    (hps : (parts.toList.map fun p => (p.1, aev T p.2)) = ps) (hk : (TT t).size = k) (hseq : seqEnd (fun i => some (i * (TT e).size, (TT e).size)) 0 ps = some k) (hcs : ps.flatMap (fun p => p.2.cells) = cs) (hone : ∀ x ∈ cs, x.one = true) : AStepD P o T H (.agg cs) H := by
  subst hcs
  refine .build_arr hT ho hok hu hoke ?_ ?_
  · rw [hps]
    have hz : (AV.ofV (TT t).zero).length = k := by simp [AV.ofV, (hT t hok).zs, hk]
    have := afill_seq (place := fun i => some (i * (TT e).size, (TT e).size)) ps [] (AV.ofV (TT t).zero) (by simpa [hz] using hseq)
    simpa using this
  · rw [hps]
    intro p hp x hx
    exact hone x (List.mem_flatMap.2 ⟨p, hp, hx⟩)
theorem AStepD.buildSlice_seq {t e : TypeId} {n : Nat} {parts : Array (Nat × Operand)} {ps : List (Nat × AV)} {cs : List AV} {k m : Nat} (ho : o.op = .buildSlice t n parts) (hok : (TT t).ok = true) (hu : (TT t).und = .slice e) (hoke : (TT e).ok = true) (hk : (TT e).size = k)
    (hps : (parts.toList.map fun p => (p.1, aev T p.2)) = ps) (hm : n * k = m) (hbig : m ≤ 16777216) (hn : n ≤ maxLen) (hseq : seqEnd (fun i => some (i * k, k)) 0 ps = some m) (hcs : ps.flatMap (fun p => p.2.cells) = cs) (hone : ∀ x ∈ cs, x.one = true) : AStepD P o T H (.sl H.next 0 n k) (H.new (.cells e cs)) := by
  subst hcs; subst hm
  refine .buildSlice hT ho hok hu hoke hk hbig hn ?_ ?_
  · rw [hps]
    have hz : (zerosA (TT e).zero n).length = n * k := by simp [zerosA, (hT e hoke).zs, hk]
    have := afill_seq (place := fun i => some (i * k, k)) ps [] (zerosA (TT e).zero n) (by simpa [hz] using hseq)
    simpa using this
  · rw [hps]
    intro p hp x hx
    exact hone x (List.mem_flatMap.2 ⟨p, hp, hx⟩)
end

theorem guard_true {b w : Bool} (h : b = w) : (b == w) = true := by subst h; cases b <;> rfl

theorem AL.lts {P : Program} {ops : Array Oper} {Q : APost} {os : List Oper} {T : Fr} {H : AHeap} {n : Nat} (k : (∀ l q, H.get l = some q → l < H.next) → AL md P ops Q os T H n) : AL md P ops Q os T H n :=
  fun ρ0 I0 w0 H0 ρ I w a hev hc ht hn hd => k (fun _ _ h => AHeap.get_lt hc h) ρ0 I0 w0 H0 ρ I w a hev hc ht hn hd
end Go.Ax
