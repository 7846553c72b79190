/- A disk, plainly: what saves and crashes leave of it. -/
import Derived.Test.YtcomjodfkcnjhaaGreatDoorCK1
import Derived.Test.YtcomjodfkcnjhaaGreatDoorCU
set_option linter.unusedSimpArgs false
set_option linter.unusedVariables false
namespace Go.Proofs.YtcomjodfkcnjhaaGreatDoor
open Go.Ax
open Cel (c)
set_option linter.unusedSimpArgs false
set_option linter.unusedVariables false

abbrev nxL : List UInt8 := [110, 101, 120, 116]
abbrev stL : List UInt8 := [115, 116, 97, 116, 101]
theorem nx_low : lowS nxL := ⟨by unfold Low; decide, by decide, by decide⟩
theorem st_low : lowS stL := ⟨by unfold Low; decide, by decide, by decide⟩
def nxN : ByteArray := str nxL
def stN : ByteArray := str stL
theorem nx_st : nxN ≠ stN := fun h => by have := str_inj.1 h; revert this; decide
structure Dk.Fine (D : Dk) : Prop where
  keys : ∀ k ∈ keysK D.fs, k = nxN ∨ k = stN
  nd : (keysK D.fs).Nodup
  sz : ∀ p ∈ D.fs, p.2.b.length ≤ 65536
  room : 0 ≤ D.room ∧ D.room ≤ 65536
  left : D.left ≤ 9223372036854775807
theorem Dk.Fine.ok {D : Dk} (h : D.Fine) : D.Ok := by
  refine ⟨?_, h.sz⟩
  have := List.Nodup.length_le_of_subset h.nd (l₂ := [nxN, stN]) fun k hk => by simpa using h.keys k hk
  simpa [keysK] using this
theorem mem_put {κ α : Type} [DecidableEq κ] {es : List (κ × α)} {n : κ} {v : α} {p : κ × α} (h : p ∈ putK es n v) : p = (n, v) ∨ p ∈ es := by
  induction es with
  | nil => simp [putK] at h; exact .inl h
  | cons q r ih =>
    simp only [putK] at h
    split at h
    · rcases List.mem_cons.1 h with h | h
      · exact .inl h
      · exact .inr (List.mem_cons_of_mem _ h)
    · rcases List.mem_cons.1 h with h | h
      · exact .inr (h ▸ List.mem_cons_self)
      · exact (ih h).imp id (List.mem_cons_of_mem _)
theorem mem_del {κ α : Type} [DecidableEq κ] {es : List (κ × α)} {n : κ} {p : κ × α} (h : p ∈ delK es n) : p ∈ es := by
  induction es with
  | nil => simp [delK] at h
  | cons q r ih =>
    simp only [delK] at h
    split at h
    · exact List.mem_cons_of_mem _ h
    · rcases List.mem_cons.1 h with h | h
      · exact h ▸ List.mem_cons_self
      · exact List.mem_cons_of_mem _ (ih h)
theorem del_keys {κ α : Type} [DecidableEq κ] {es : List (κ × α)} (hn : (keysK es).Nodup) (n : κ) : (keysK (delK es n)).Nodup ∧ ∀ k ∈ keysK (delK es n), k ∈ keysK es := by
  rw [keys_del hn]
  exact ⟨hn.erase _, fun k hk => List.mem_of_mem_erase hk⟩
theorem Dk.Fine.put {D : Dk} (h : D.Fine) {n : ByteArray} {f : Fil} (hn : n = nxN ∨ n = stN) (hf : f.b.length ≤ 65536) : (D.put n f).Fine := by
  refine ⟨fun k hk => ?_, put_nodup h.nd n f, fun p hp => ?_, h.room, h.left⟩
  · simp only [Dk.put, keys_put] at hk
    split at hk
    · exact h.keys k hk
    · rcases List.mem_append.1 hk with hk | hk
      · exact h.keys k hk
      · simp at hk; rw [hk]; exact hn
  · rcases mem_put hp with rfl | hp
    · exact hf
    · exact h.sz p hp
theorem Dk.Fine.step {D : Dk} (h : D.Fine) : D.step.Fine := by
  refine ⟨by rw [D.step_fs]; exact h.keys, by rw [D.step_fs]; exact h.nd, by rw [D.step_fs]; exact h.sz, by rw [D.step_room]; exact h.room, ?_⟩
  have := h.left
  unfold Dk.step
  split
  · show D.left - 1 ≤ _; omega
  · split
    · exact h.left
    · exact h.left
theorem Dk.Fine.mv {D : Dk} (h : D.Fine) {a b : ByteArray} {f : Fil} (hb : b = nxN ∨ b = stN) (hf : f.b.length ≤ 65536) : (D.mv a b f).Fine := by
  have h1 : ({ D with fs := delK D.fs a } : Dk).Fine := by
    refine ⟨fun k hk => ?_, ?_, fun p hp => h.sz p (mem_del hp), h.room, h.left⟩
    · exact h.keys k ((del_keys h.nd a).2 k hk)
    · exact (del_keys h.nd a).1
  exact h1.put hb hf

def Dk.stage (D : Dk) (t : List UInt8) : Nat → Dk × Int
  | 0 => D.write nxN t
  | 1 => D.sync nxN
  | _ => D.rename nxN stN
def Dk.stg (D : Dk) (t : List UInt8) : Nat → Dk × Int
  | 0 => (D, 0)
  | j + 1 => if (D.stg t j).2 = 0 then (D.stg t j).1.stage t j else D.stg t j
def Dk.save (D : Dk) (s : Stt) : Dk × Int := if rightB s = true then D.stg (docT s) 3 else (D, 10)

theorem find_len {D : Dk} (h : D.Fine) (n : ByteArray) : (D.findF n).b.length ≤ 65536 := find_le h.ok n
theorem Dk.Fine.stage {D : Dk} (h : D.Fine) (t : List UInt8) : ∀ j, (D.stage t j).1.Fine
  | 0 => by
    show (D.write nxN t).1.Fine
    unfold Dk.write
    split
    · exact h
    · split
      · exact h
      · rename_i hs
        have := h.room
        exact (h.put (.inl rfl) (by show t.length ≤ _; omega)).step
  | 1 => by
    show (D.sync nxN).1.Fine
    unfold Dk.sync
    split
    · exact h
    · split
      · exact h.step
      · exact h.step.put (.inl rfl) (find_len h _)
  | j + 2 => by
    show (D.rename nxN stN).1.Fine
    unfold Dk.rename
    split
    · exact h
    · split
      · exact h.step
      · exact h.step.mv (.inr rfl) (find_len h _)
theorem Dk.Fine.stg {D : Dk} (h : D.Fine) (t : List UInt8) : ∀ j, (D.stg t j).1.Fine
  | 0 => h
  | j + 1 => by
    unfold Dk.stg
    split
    · exact (h.stg t j).stage t j
    · exact h.stg t j
theorem Dk.Fine.save {D : Dk} (h : D.Fine) (s : Stt) : (D.save s).1.Fine := by
  unfold Dk.save
  split
  · exact h.stg _ 3
  · exact h

/-! ### What is kept -/
def Dk.kept (D : Dk) : Option Fil := getK D.fs stN
theorem step_kept (D : Dk) : D.step.kept = D.kept := by rw [Dk.kept, Dk.step_fs, Dk.kept]
theorem put_kept (D : Dk) (f : Fil) : (D.put nxN f).kept = D.kept := getK_put_ne _ _ nx_st.symm
theorem mv_kept (D : Dk) (f : Fil) : (D.mv nxN stN f).kept = some f := getK_put_same _ _ _
theorem got_put (D : Dk) (n : ByteArray) (f : Fil) : (D.put n f).got n = f := by rw [Dk.got, Dk.put, getK_put_same]; rfl
theorem got_step (D : Dk) (n : ByteArray) : D.step.got n = D.got n := by rw [Dk.got, Dk.step_fs, Dk.got]
theorem has_put (D : Dk) (n : ByteArray) (f : Fil) : (D.put n f).has n = true := by rw [Dk.has, Dk.put, getK_put_same]; rfl
theorem has_step (D : Dk) (n : ByteArray) : D.step.has n = D.has n := by rw [Dk.has, Dk.step_fs, Dk.has]
theorem find_up {D : Dk} (h : D.down = false) (n : ByteArray) (hh : D.has n = true) : D.findE n = 0 ∧ D.findF n = D.got n := by
  rw [Dk.findE, Dk.findF, h, hh]; exact ⟨rfl, rfl⟩

theorem write_ok {D : Dk} {t : List UInt8} (h : (D.write nxN t).2 = 0) : D.down = false ∧ (D.write nxN t).1.down = false ∧ (D.write nxN t).1.got nxN = ⟨t, false⟩ ∧ (D.write nxN t).1.has nxN = true := by
  unfold Dk.write at h ⊢
  split
  · rename_i hd; rw [if_pos hd] at h; cases h
  · rename_i hd
    rw [if_neg hd] at h
    split
    · rename_i hs; rw [if_pos hs] at h; cases h
    · rename_i hs
      rw [if_neg hs] at h
      simp only at h ⊢
      refine ⟨by simpa using hd, ?_, by rw [got_step, got_put], by rw [has_step, has_put]⟩
      cases hx : (D.put nxN ⟨t, false⟩).step.down with
      | false => rfl
      | true => rw [hx] at h; cases h
theorem write_kept (D : Dk) (t : List UInt8) : (D.write nxN t).1.kept = D.kept := by
  unfold Dk.write
  split
  · rfl
  · split
    · rfl
    · simp only; rw [step_kept, put_kept]
theorem sync_kept (D : Dk) : (D.sync nxN).1.kept = D.kept := by
  unfold Dk.sync
  split
  · rfl
  · split
    · exact step_kept D
    · simp only; rw [put_kept, step_kept]
theorem sync_ok {D : Dk} (h : (D.sync nxN).2 = 0) : (D.sync nxN).1.down = false ∧ (D.sync nxN).1.got nxN = ⟨(D.findF nxN).b, true⟩ ∧ (D.sync nxN).1.has nxN = true := by
  unfold Dk.sync at h ⊢
  split
  · rename_i he; rw [if_pos he] at h; exact absurd h he
  · rename_i he
    rw [if_neg he] at h
    split
    · rename_i hd; rw [if_pos hd] at h; cases h
    · rename_i hd
      simp only
      exact ⟨by simpa [Dk.put] using hd, got_put _ _ _, has_put _ _ _⟩
theorem rename_kept (D : Dk) : (D.rename nxN stN).1.kept = if (D.rename nxN stN).2 = 0 then some (D.findF nxN) else D.kept := by
  unfold Dk.rename
  split
  · rfl
  · split
    · simp only; exact step_kept D
    · simp only [if_true]; exact mv_kept _ _
theorem save_kept (D : Dk) (s : Stt) : (D.save s).1.kept = if (D.save s).2 = 0 then some ⟨docT s, true⟩ else D.kept := by
  unfold Dk.save
  split
  · rename_i hr
    have e1 : D.stg (docT s) 1 = D.write nxN (docT s) := by rw [Dk.stg, Dk.stg, if_pos rfl]; rfl
    have e2 : D.stg (docT s) 2 = if (D.write nxN (docT s)).2 = 0 then (D.write nxN (docT s)).1.sync nxN else D.write nxN (docT s) := by
      rw [Dk.stg, e1]; rfl
    have e3 : D.stg (docT s) 3 = if (D.stg (docT s) 2).2 = 0 then (D.stg (docT s) 2).1.rename nxN stN else D.stg (docT s) 2 := by
      rw [Dk.stg]; rfl
    by_cases h1 : (D.write nxN (docT s)).2 = 0
    · obtain ⟨hd0, hd1, hg1, hh1⟩ := write_ok h1
      rw [if_pos h1] at e2
      by_cases h2 : (D.stg (docT s) 2).2 = 0
      · rw [if_pos h2] at e3
        rw [e2] at h2
        obtain ⟨hd2, hg2, hh2⟩ := sync_ok h2
        obtain ⟨_, hf1⟩ := find_up hd1 nxN hh1
        obtain ⟨_, hf2⟩ := find_up hd2 nxN hh2
        rw [e3, e2, rename_kept, hf2, hg2, hf1, hg1]
        split
        · rfl
        · rw [sync_kept, write_kept]
      · rw [if_neg h2] at e3
        rw [e3, if_neg h2, e2, sync_kept, write_kept]
    · rw [if_neg h1] at e2
      have h2 : ¬ (D.stg (docT s) 2).2 = 0 := by rw [e2]; exact h1
      rw [if_neg h2] at e3
      rw [e3, if_neg h2, e2, write_kept]
  · simp only; rfl
end Go.Proofs.YtcomjodfkcnjhaaGreatDoor

/- Walks: Save, Load, Carry. -/

namespace Go.Proofs.YtcomjodfkcnjhaaGreatDoor
open Go.Ax
open Cel (c)
theorem qK61 {p : Prop} (h : p := by first | omega | (simp only [za, zb, zc, zd]; omega)) : p := h
theorem qK62 {p : Prop} (h : p := by (conv => lhs; whnf); all_goals exact rfl) : p := h
theorem qK63 {p : Prop} (h : p := by first | with_reducible assumption | exact rfl) : p := h
theorem qK64 {p : Prop} (h : p := by repeat' (first | exact Keep.refl _ | apply Keep.new | apply Keep.set | apply Keep.del | (first | omega | (simp only [za, zb, zc]; omega)))) : p := h
theorem qK65 {p : Prop} (h : p := by first | with_reducible assumption | exact Cel.one _ | exact flat_ones _ | exact ones_nil | (simp only [List.forall_mem_cons, List.not_mem_nil, false_implies, implies_true, and_true, one_v, one_ptr, one_ip, one_sl, one_slc, one_vec, one_map, one_func, one_iface, Value.oneCell', *]; done) | (simp [AV.one, Value.oneCell', *]; done)) : p := h
theorem qK66 {p : Prop} (h : p := by exact AStepD.extract rfl rfl rfl) : p := h
theorem qK67 {p : Prop} (h : p := by exact AStepD.alloc tok rfl rfl) : p := h
theorem qK68 {p : Prop} (h : p := by first | ((with_reducible refine over_all ?_); exact rfl) | (simp only [over, List.take_succ_cons, List.take_zero, List.drop_succ_cons, List.drop_zero, List.length_cons, List.length_nil, List.nil_append, List.cons_append, Nat.reduceAdd, Nat.zero_add, List.drop_nil, List.append_nil]; exact rfl) | conv => lhs; whnf) : p := h
theorem qK69 {p : Prop} (h : p := by first | exact AStepD.neq rfl rfl rfl | exact AStepD.str_neq rfl rfl rfl | exact (AStepD.ptr_nil tok (.inl ⟨_, _, rfl⟩) rfl rfl rfl).2 rfl | exact (AStepD.nil_nil tok rfl rfl rfl rfl).2 rfl | exact (AStepD.bool_eq tok rfl rfl rfl rfl).2 rfl | exact (AStepD.ptr_same tok rfl rfl rfl rfl rfl).2 rfl | exact (AStepD.iface_nil tok rfl rfl rfl rfl).2 rfl | exact (AStepD.nilIface_nil tok rfl rfl rfl rfl).2 rfl) : p := h
theorem qK610 {p : Prop} (h : p := by first | omega | (simp; done) | (simp; omega) | (simp only [over, List.length_append, List.length_take, List.length_drop, *]; omega) | (simp_all; done) | (simp_all; omega)) : p := h
theorem qK611 {p : Prop} (h : p := by simp only [List.flatMap_cons, List.flatMap_nil, cells_v, cells_any, cells_ptr, cells_ip, cells_sl, cells_vec, cells_map, cells_func, cells_agg, cells_iface, List.cons_append, List.nil_append, List.append_nil]; all_goals exact rfl) : p := h
theorem qK612 {p : Prop} (h : p := by (conv => lhs; whnf); all_goals first | exact rfl | (simp; done) | (simp; omega)) : p := h
theorem qK613 {p : Prop} (h : p := by first | exact rfl | exact (Int.toNat_of_nonneg (by omega)).symm) : p := h
theorem qK614 {p : Prop} (h : p := by first | (simp only [Nat.zero_add, Nat.zero_mul, Nat.sub_zero, Nat.add_zero]; exact rfl) | exact rfl) : p := h
theorem qK615 {p : Prop} (h : p := by first | with_reducible assumption | (simp (disch := (first | omega | (exact Lst.lab_ne (by with_reducible assumption) qK61) | (exact Lst.lab_new (by with_reducible assumption) qK61) | (refine id ?_; simp only [za, zb, zc, zd]; done) | (simp only [za, zb, zc, zd]; omega))) only [z1, z2, z3, z4, z5, z6, z7, z8, z9, ne_eq, *]; done) | (simp (disch := (first | omega | (exact Lst.lab_ne (by with_reducible assumption) qK61) | (exact Lst.lab_new (by with_reducible assumption) qK61) | (refine id ?_; simp only [za, zb, zc, zd]; done) | (simp only [za, zb, zc, zd]; omega))) only [z1, z2, z3, z4, z5, z6, z7, z8, z9, ne_eq, *]; exact rfl)) : p := h
theorem qK616 {p : Prop} (h : p := by exact AStepD.assign' rfl qK62) : p := h
theorem qK617 {p : Prop} (h : p := by exact AStepD.move' rfl qK62) : p := h
theorem qK618 {p : Prop} (h : p := by exact SD.s rfl rfl rfl qK66) : p := h
theorem qK619 {p : Prop} (h : p := by exact SD.s rfl rfl rfl qK67) : p := h
theorem qK620 {p : Prop} (h : p := by exact SD.s rfl rfl rfl qK69) : p := h
theorem qK621 {p : Prop} (h : p := by first | exact AStepD.buildSlice0 tok rfl rfl rfl rfl (show _ = 1 from rfl) | exact AStepD.buildSlice1 tok rfl rfl rfl rfl (show _ = 1 from rfl) qK62 qK62 qK610 (by decide) qK65 | exact AStepD.buildSlice_seq tok rfl rfl rfl rfl (show _ = 1 from rfl) (map_p qK62 (map_p qK62 (map_p qK62 map_n))) rfl (by decide) (by decide) rfl qK611 qK65 | exact AStepD.buildSlice tok rfl rfl rfl rfl qK62 (by decide) (by decide) rfl qK65) : p := h
theorem qK622 {p : Prop} (h : p := by repeat' (first | exact SubT.nil _ | refine SubT.cons_eq qK612 ?_)) : p := h
theorem qK623 {p : Prop} (h : p := by first | exact AStepD.indexAddr_flat tok rfl rfl rfl rfl rfl rfl rfl (show _ = 1 from rfl) rfl qK613 qK610 | exact AStepD.indexAddr_vec' tok rfl rfl rfl rfl rfl rfl (show _ = 1 from rfl) qK613 qK610 | exact AStepD.indexAddr_sl' tok rfl rfl rfl rfl rfl rfl (show _ = 1 from rfl) qK613 qK610 qK614 | exact AStepD.indexAddr_arr' tok rfl rfl rfl rfl rfl rfl (show _ = 1 from rfl) qK613 qK610 qK614) : p := h
theorem qK624 {p : Prop} (h : p := by exact SD.s rfl rfl rfl qK616) : p := h
theorem qK625 {p : Prop} (h : p := by first | exact AStepD.load_one tok rfl rfl rfl rfl qK615 rfl qK63 | exact AStepD.load_one_ip tok rfl rfl rfl rfl rfl qK63) : p := h
theorem qK626 {p : Prop} (h : p := by exact SD.s rfl rfl rfl qK617) : p := h
theorem qK627 {p : Prop} (h : p := by exact AStepD.store' tok rfl rfl qK615 qK62 (by first | exact one_cells (by with_reducible assumption) | exact qK62) qK65 rfl qK62 rfl (by first | exact Nat.le_of_ble_eq_true rfl | (simp; done) | (simp; omega) | (simp_all; omega)) qK68) : p := h
theorem qK628 {p : Prop} (h : p := by exact SD.s rfl rfl rfl qK625) : p := h
set_option linter.unusedSimpArgs false
set_option linter.unusedVariables false
set_option maxRecDepth 20000
open Cel (c)

theorem flat_bytes (l : List UInt8) : flat l = l.map fun b => .v (.int .u8 (b.toNat : Int)) := by
  induction l with
  | nil => rfl
  | cons a r ih => rw [flat_cons, ih]; rfl
theorem strA_bytes {o : Oper} {T : Fr} {H : AHeap} {x : Operand} {l : List UInt8} (ho : o.op = .convert 9 46 x) (hx : aev T x = strA l) (hl : l.length ≤ 1000000) : AStepD Tryz.prog o T H (.sl H.next 0 l.length 1) (H.new (.cells 5 (flat l))) := by
  have := AStepD.str_bytes (P := Tryz.prog) (H := H) (e := 5) tok ho hx rfl rfl rfl rfl rfl rfl rfl rfl (by rw [str_size]; unfold maxLen; omega)
  rw [str_size, str_list, ← flat_bytes] at this
  exact this

def fS : Nat → FuncId
  | 0 => 31
  | 1 => 32
  | _ => 34
def cS (X Y : Nat) : Nat → List AV
  | 0 => [.ptr X 0, .ptr Y 0]
  | _ => [.ptr X 0]
theorem enS : ∀ j, Go.Ax.Enters Tryz.prog (fS j)
  | 0 => en31
  | 1 => en32
  | _ + 2 => en34
theorem stage_calls (H : AHeap) (d m X Y : Nat) (D : Dk) (t : List UInt8) (h : DkAt H d m D) (hf : D.Fine) (hX : H.get X = some (.cells 25 [.ptr d 0])) (hY : H.get Y = some (.cells 9 [strA t])) (ht : t.length ≤ 900000) :
    ∀ j, ACalls Tryz.prog (fS j) (cS X Y j) H (fun r H' => r = .v (.int .i64 (D.stage t j).2) ∧ DkAt H' d m (D.stage t j).1 ∧ Only (both d m) H H')
  | 0 => by
    have hd := h.d
    have hm := h.m
    refine ACalls.lts fun hlt => ?_
    have hdl := hlt _ _ hd
    have hml := hlt _ _ hm
    show ACalls Tryz.prog 31 [.ptr X 0, .ptr Y 0] H _
    have hfl : (flat t).length = t.length := (flat_length t).trans (Nat.mul_one _)
    have hsrc : Ax.Src ((H.new (.cells 5 (flat t))).new (.cells 5 [])) 1 (.sl H.next 0 t.length 1) t.length (flat t) := by
      have h1 : Ax.Src ((H.new (.cells 5 (flat t))).new (.cells 5 [])) 1 (.sl H.next 0 t.length 1) t.length (((flat t).drop 0).take (t.length * 1)) := .sl (ty := 5) qK615 (by rw [hfl]; omega)
      rwa [List.drop_zero, List.take_of_length_le (by omega)] at h1
    refine ACalls.of_body tok Tryz.func31 rfl Tryz.ntmps31 (Nat.le_of_ble_eq_true rfl) (fun base => ?_)
    refine rg fun K hK => ?_
    refine st qK624 <| nt (hK _ _ ?_)
    clear hK K
    refine rg fun K hK => ?_
    refine st qK628 <| st qK628 <| st (by exact SD.s rfl rfl rfl (by exact strA_bytes rfl rfl (by omega))) <| ?_
    refine AL.call rfl rfl rfl (AStep.callf rfl en17 (write_calls _ d m D nxL (.sl H.next 0 t.length 1) t ⟨qK615, qK615⟩ hf.ok nx_low hsrc (by omega) hf.room hf.left)) ?_; rintro _ H2 ⟨rfl, h2, o2⟩
    refine st qK624 <| nt (hK _ _ ?_)
    clear hK K
    refine AW.ret (RetQ.mk (.inr rfl) (retA_tmp rfl qK62 retA_nil) ⟨rfl, h2, (Only.keep qK64).trans o2⟩)
  | 1 => by
    show ACalls Tryz.prog 32 [.ptr X 0] H _
    refine ACalls.of_body tok Tryz.func32 rfl Tryz.ntmps32 (Nat.le_of_ble_eq_true rfl) (fun base => ?_)
    refine rg fun K hK => ?_
    refine st qK624 <| nt (hK _ _ ?_)
    clear hK K
    refine rg fun K hK => ?_
    refine st qK628 <| ?_
    refine AL.call rfl rfl rfl (AStep.callf rfl en33 (sync_calls _ d m D nxN h hf.left)) ?_; rintro _ H2 ⟨rfl, h2, o2⟩
    refine st qK624 <| nt (hK _ _ ?_)
    clear hK K
    refine AW.ret (RetQ.mk (.inr rfl) (retA_tmp rfl qK62 retA_nil) ⟨rfl, h2, o2⟩)
  | j + 2 => by
    show ACalls Tryz.prog 34 [.ptr X 0] H _
    refine ACalls.of_body tok Tryz.func34 rfl Tryz.ntmps34 (Nat.le_of_ble_eq_true rfl) (fun base => ?_)
    refine rg fun K hK => ?_
    refine st qK624 <| nt (hK _ _ ?_)
    clear hK K
    refine rg fun K hK => ?_
    refine st qK628 <| ?_
    refine AL.call rfl rfl rfl (AStep.callf rfl en35 (rename_calls _ d m D nxN stL st_low h hf.left)) ?_; rintro _ H2 ⟨rfl, h2, o2⟩
    refine st qK624 <| nt (hK _ _ ?_)
    clear hK K
    refine AW.ret (RetQ.mk (.inr rfl) (retA_tmp rfl qK62 retA_nil) ⟨rfl, h2, o2⟩)

theorem doc4 {s : Stt} (h : rightB s = true) : (docT s).length ≤ 4000 := doc_short (right_rt h)
theorem stg_next {D : Dk} {t : List UInt8} {j : Nat} (h : (D.stg t j).2 = 0) : D.stg t (j + 1) = (D.stg t j).1.stage t j := by rw [Dk.stg, if_pos h]
theorem stg_stay {D : Dk} {t : List UInt8} : ∀ {i j : Nat}, i ≤ j → (D.stg t i).2 ≠ 0 → D.stg t j = D.stg t i
  | i, 0, h, h1 => by cases Nat.le_zero.1 h; rfl
  | i, j + 1, h, h1 => by
    by_cases e : i = j + 1
    · rw [e]
    · have ih := stg_stay (j := j) (by omega) h1
      rw [Dk.stg, ih, if_neg h1]
def fnA (X Y : Nat) (j : Nat) : AV := .func (.func (fS j)) (cS X Y j)
set_option maxHeartbeats 1000000 in
theorem save_calls (H : AHeap) (d m : Nat) (D : Dk) (s : Stt) (hs : s.Ok) (h : DkAt H d m D) (hf : D.Fine) :
    ACalls Tryz.prog 12 [.ptr d 0, stA s] H (fun r H' => r = .v (.int .i64 (D.save s).2) ∧ DkAt H' d m (D.save s).1 ∧ Only (both d m) H H') := by
  have hcs := hs.fc (vecA s.known)
  refine ACalls.lts fun hlt => ?_
  have hdl := hlt _ _ h.d
  have hml := hlt _ _ h.m
  have hd := h.d
  have hm := h.m
  refine ACalls.of_body tok Tryz.func12 rfl Tryz.ntmps12 (Nat.le_of_ble_eq_true rfl) (fun base => ?_)
  refine rg fun K hK => ?_
  refine st (by exact SD.s rfl rfl rfl (by first | exact AStepD.box1 rfl qK62 (by first | exact rfl | with_reducible assumption | exact Lst.one (by assumption)) | exact AStepD.box rfl qK62 qK65)) <| st (by exact SD.s rfl rfl rfl (by exact AStepD.box (cs := s.cs (vecA s.known)) rfl rfl (s.cs_one rfl))) <| st qK624 <| nt (hK _ _ ?_)
  clear hK K
  refine rg fun K hK => ?_
  refine st (by exact SD.s rfl rfl rfl (by exact AStepD.load_agg (cs := s.cs (vecA s.known)) (zs := s.cs (vecA s.known)) tok rfl rfl rfl qK615 rfl (show _ = 134 from rfl) (by omega) (by rw [List.drop_zero]; exact List.take_of_length_le (by omega)))) <| st (by exact SD.s rfl rfl rfl (by exact AStepD.callf rfl en11 rfl (statetext_calls _ s hs))) <| st qK626 <| st qK618 <| st qK618 <| st qK619 <| st0 (by exact ⟨rfl, rfl, qK627⟩) <| st qK624 <| nt (hK _ _ ?_)
  clear hK K
  refine AW.seq_k (fun K1 hK1 => ?_)
  refine rg fun K hK => ?_
  refine st qK626 <| st qK620 <| nt (hK _ _ ?_)
  clear hK K
  cases hr : rightB s with
  | false =>
    rw [if_neg (by decide), if_neg (by decide)]
    refine AW.cond_true rfl rfl ?_
    refine rg fun K hK => ?_
    refine st qK626 <| st qK624 <| nt (hK _ _ ?_)
    clear hK K
    have hsv : D.save s = (D, 10) := by rw [Dk.save, hr, if_neg (by decide)]
    refine AW.ret (RetQ.mk (.inr rfl) (retA_tmp rfl qK62 retA_nil) ⟨by rw [hsv]; rfl, by rw [hsv]; exact ⟨qK615, qK615⟩, Only.keep qK64⟩)
  | true =>
  rw [if_pos rfl, if_pos rfl]
  have hsv : D.save s = D.stg (docT s) 3 := by rw [Dk.save, hr, if_pos rfl]
  have hdl4 := doc4 hr
  refine AW.cond_false rfl rfl (AW.skip ?_)
  refine hK1 _ _ ?_; try clear hK1 K1
  refine AW.seq_k (fun K2 hK2 => ?_)
  refine rg fun K hK => ?_
  refine st (by exact SD.s rfl rfl rfl (by first | exact AStepD.val (AStepD.makeFunc rfl) (congrArg (AV.func _) (amap_cons qK62 (amap_cons qK62 amap_nil))) | exact AStepD.makeFunc rfl)) <| st (by exact SD.s rfl rfl rfl (by first | exact AStepD.val (AStepD.makeFunc rfl) (congrArg (AV.func _) (amap_cons qK62 amap_nil)) | exact AStepD.makeFunc rfl)) <| st (by exact SD.s rfl rfl rfl (by first | exact AStepD.val (AStepD.makeFunc rfl) (congrArg (AV.func _) (amap_cons qK62 amap_nil)) | exact AStepD.makeFunc rfl)) <| st (by exact SD.s rfl rfl rfl qK621) <| st (by exact SD.s rfl rfl rfl (by exact AStepD.len_sl tok rfl rfl .sl rfl rfl)) <| st qK626 <| nt (hK _ _ ?_)
  clear hK K
  have hfn : ∀ j, j < 3 → ([fnA H.next (H.next + 2) 0, fnA H.next (H.next + 2) 1, fnA H.next (H.next + 2) 2])[j * 1]? = some (fnA H.next (H.next + 2) j) := by
    intro j hj
    rcases j with _ | _ | _ | j
    · rfl
    · rfl
    · rfl
    · omega
  refine AW.block ?_
  refine AW.loop_at (ι := Nat) (fun j => [(23, .v (.int .i64 (j : Nat))), (22, .v (.int .i64 3)), (21, .sl (H.next + 3) 0 3 1)])
    (fun j H' => j ≤ 3 ∧ (D.stg (docT s) j).2 = 0 ∧ DkAt H' d m (D.stg (docT s) j).1 ∧ Only (both d m) H H' ∧ H'.get H.next = some (.cells 25 [.ptr d 0]) ∧ H'.get (H.next + 2) = some (.cells 9 [strA (docT s)]) ∧ H'.get (H.next + 3) = some (.cells 71 [fnA H.next (H.next + 2) 0, fnA H.next (H.next + 2) 1, fnA H.next (H.next + 2) 2]) ∧ H.next + 3 < H'.next) (fun j => 3 - j) 0 qK622
    ⟨Nat.zero_le _, rfl, ⟨qK615, qK615⟩, Only.keep qK64, qK615, qK615, qK615, (by (try simp only [za, zb, zc, zd, ne_eq]); omega)⟩ ?_
  rintro j H2 ⟨hj, he, hD2, ho2, hX2, hY2, hZ2, hn2⟩
  have hj : j ≤ 3 := hj
  refine rg fun K hK => ?_
  refine st (by exact SD.s rfl rfl rfl (by exact AStepD.lss rfl rfl rfl)) <| nt (hK _ _ ?_)
  clear hK K
  refine AW.seq_k (fun K3 hK3 => ?_)
  refine AW.cond _ rfl (fun hc => ?_) (fun hc => ?_)
  · have hc := of_decide_eq_true hc
    have hj3 : j < 3 := by omega
    refine AW.skip ?_
    refine hK3 _ _ ?_; try clear hK3 K3
    refine AW.seq_k (fun K4 hK4 => ?_)
    refine AW.block ?_
    refine rg fun K hK => ?_
    refine st (by exact SD.s rfl rfl rfl qK623) <| st (by exact SD.s rfl rfl rfl (by exact AStepD.load_one tok rfl rfl rfl rfl hZ2 rfl (hfn j hj3))) <| st qK624 <| nt (hK _ _ ?_)
    clear hK K
    refine rg fun K hK => ?_
    refine st qK626 <| ?_
    refine AL.call rfl rfl rfl (AStep.call rfl rfl (enS j) (stage_calls _ d m H.next (H.next + 2) (D.stg (docT s) j).1 (docT s) hD2 (hf.stg _ j) hX2 hY2 (by omega) j)) ?_; rintro _ H3 ⟨rfl, h3, o3⟩
    refine st qK624 <| nt (hK _ _ ?_)
    clear hK K
    refine rg fun K hK => ?_
    refine st qK626 <| st qK620 <| nt (hK _ _ ?_)
    clear hK K
    have hdn : d < H.next ∧ m < H.next := ⟨hdl, hml⟩
    have ho3 : Only (both d m) H H3 := ho2.trans o3
    have hnx := stg_next he
    refine AW.cond _ rfl (fun hc => ?_) (fun hc => ?_)
    · have hc : (D.stg (docT s) (j + 1)).2 ≠ 0 := by rw [hnx]; simpa using hc
      have hst := stg_stay (j := 3) hj3 hc
      rw [hnx] at hst
      refine rg fun K hK => ?_
      refine st qK626 <| st qK624 <| nt (hK _ _ ?_)
      clear hK K
      refine AW.ret (RetQ.mk (.inr rfl) (retA_tmp rfl qK62 retA_nil) ⟨by rw [hsv, hst]; rfl, by rw [hsv, hst]; exact h3, ho3⟩)
    · have hc : (D.stg (docT s) (j + 1)).2 = 0 := by rw [hnx]; simpa using hc
      refine AW.skip ?_
      refine hK4 _ _ ?_; try clear hK4 K4
      refine AW.region ?_
      refine st (by exact SD.s rfl rfl rfl (by first | exact AStepD.add rfl rfl rfl (by first | exact IntWalk.i64_in _ (by omega) | exact IntWalk.i64_in _ (by simp only [Bool.or_eq_true, Bool.and_eq_true, Bool.or_eq_false_iff, Bool.and_eq_false_iff, Bool.not_eq_true', Bool.not_eq_false', decide_eq_true_eq, decide_eq_false_iff_not, Int.not_lt, Int.not_le, beq_iff_eq] at *; omega) | exact rfl) | exact AStepD.str_add rfl rfl rfl (by omega))) <| st qK626 <| AL.nil ?_
      refine ⟨j + 1, by omega, qK622, hj3, hc, by rw [hnx]; exact h3, ho3, (o3.gt _ (by omega) (by rintro (e | e) <;> omega)).trans hX2, (o3.gt _ (by omega) (by rintro (e | e) <;> omega)).trans hY2, (o3.gt _ (by omega) (by rintro (e | e) <;> omega)).trans hZ2, Nat.lt_of_lt_of_le hn2 o3.nx⟩
  · have hc := of_decide_eq_false hc
    have hj3 : j = 3 := by omega
    subst hj3
    refine AW.exit ?_
    refine hK2 _ _ ?_; try clear hK2 K2
    refine rg fun K hK => ?_
    refine st qK624 <| nt (hK _ _ ?_)
    clear hK K
    refine AW.ret (RetQ.mk (.inr rfl) (retA_tmp rfl qK62 retA_nil) ⟨by rw [hsv, he]; rfl, by rw [hsv]; exact hD2, ho2⟩)

def Dk.load (D : Dk) : Stt × Int := if D.findE stN = 0 then ((parseP (D.readB stN)).getD zS, if (parseP (D.readB stN)).isSome then 0 else 60) else (zS, D.findE stN)
theorem st_load {o : Oper} {T : Fr} {H : AHeap} {x : Operand} {X ty : Nat} {s : Stt} {y : AV} (hs : s.Ok) (ho : o.op = .load 34 x) (hx : aev T x = .ptr X 0) (hH : H.get X = some (.cells ty (s.cs y))) : AStepD Tryz.prog o T H (.agg (s.cs y)) H :=
  AStepD.load_agg (cs := s.cs y) (zs := s.cs y) tok ho hx rfl hH rfl (show _ = 134 from rfl) (by rw [hs.fc]; omega) (by rw [List.drop_zero]; exact List.take_of_length_le (by rw [hs.fc]; omega))
theorem st_store {o : Oper} {T : Fr} {H : AHeap} {x z : Operand} {X ty : Nat} {s : Stt} {y : AV} {cs : List AV} (hs : s.Ok) (hy : y.one = true) (ho : o.op = .store 34 x z) (hx : aev T x = .ptr X 0) (hH : H.get X = some (.cells ty cs)) (hl : cs.length = 134) (hz : aev T z = .agg (s.cs y)) : AStepD Tryz.prog o T H .any (H.set X (.cells ty (s.cs y))) :=
  AStepD.store' (k := 134) (cs := cs) (ys := s.cs y) (zs := s.cs y) tok ho hx hH hz rfl (s.cs_one hy) rfl (hs.fc _) rfl (by rw [hl]; exact Nat.le_refl _) (over_all (by rw [hl, hs.fc]; rfl))
theorem retA_st {T : Fr} {H : AHeap} {rs r : List ResultVar} {a X ty : Nat} {s : Stt} {y : AV} {xs : List AV} (hs : s.Ok) (h : rs = .cell a 34 :: r) (hx : Go.Ax.look T a = .ptr X 0) (hH : H.get X = some (.cells ty (s.cs y))) (hr : retA tt T H r = some xs) : retA tt T H rs = some (.agg (s.cs y) :: xs) :=
  retA_agg (cs := s.cs y) (zs := s.cs y) h hx rfl hH rfl (show _ = 134 from rfl) (by rw [hs.fc]; omega) (by rw [List.drop_zero]; exact List.take_of_length_le (by rw [hs.fc]; omega)) hr
theorem st_built {o : Oper} {T : Fr} {H : AHeap} (ho : o.op = .build 34 #[]) : AStepD Tryz.prog o T H (.agg (zS.cs (.v (.slice none 0 0)))) H :=
  AStepD.val (AStepD.build tok ho rfl rfl (by decide) rfl (fun _ h => absurd h List.not_mem_nil)) (by rw [zS_zero])
theorem zS_len : (AV.ofV (tt 34).zero).length = 134 := by rw [zS_zero]; exact zS_ok.fc _
theorem parse_get_ok (t : List UInt8) : ((parseP t).getD zS).Ok := by
  cases h : parseP t with
  | none => exact zS_ok
  | some s => exact parse_ok h
theorem load_calls (H : AHeap) (d m : Nat) (D : Dk) (h : DkAt H d m D) (hf : D.Fine) : ACalls Tryz.prog 15 [.ptr d 0] H (fun r H' => r = .tup [stA D.load.1, .v (.int .i64 D.load.2)] ∧ H' = H) := by
  refine ACalls.lts fun hlt => ?_
  have hdl := hlt _ _ h.d
  have hml := hlt _ _ h.m
  have hd := h.d
  have hm := h.m
  have hlen := find_len hf stN
  refine ACalls.quiet_keep ?_ (.tup fun z hz => ?_)
  · refine ACalls.of_body tok Tryz.func15 rfl Tryz.ntmps15 (Nat.le_of_ble_eq_true rfl) (fun base => ?_)
    refine rg fun K hK => ?_
    refine st qK619 <| st qK624 <| nt (hK _ _ ?_)
    clear hK K
    refine rg fun K hK => ?_
    refine st qK626 <| st (by exact SD.s rfl rfl rfl (by exact AStepD.callf rfl en39 rfl (dread_calls _ d m D stN ⟨qK615, qK615⟩ hf.ok))) <| st qK626 <| st qK618 <| st qK618 <| st qK624 <| st qK624 <| nt (hK _ _ ?_)
    clear hK K
    refine AW.seq_k (fun K1 hK1 => ?_)
    refine rg fun K hK => ?_
    refine st qK626 <| st qK620 <| nt (hK _ _ ?_)
    clear hK K
    refine AW.cond _ rfl (fun hc => ?_) (fun hc => ?_)
    · have hc : D.findE stN ≠ 0 := by simpa using hc
      have hld : D.load = (zS, D.findE stN) := by rw [Dk.load, if_neg hc]
      refine rg fun K hK => ?_
      refine st (by exact SD.s rfl rfl rfl (by exact st_built rfl)) <| st qK626 <| st0 (by exact ⟨rfl, rfl, (by exact st_store zS_ok rfl rfl rfl qK615 zS_len rfl)⟩) <| st qK624 <| nt (hK _ _ ?_)
      clear hK K
      refine AW.ret (RetQ.sub (.inr rfl) (retA_st zS_ok rfl rfl (AHeap.get_set_same _ _ _) (retA_tmp rfl qK62 retA_nil)) (SubV.tup2 (cs_sub zS (SubV.nil_vecA (α := Kn))) (.refl _)) ⟨by rw [hld]; rfl, qK64⟩)
    have hc : D.findE stN = 0 := by simpa using hc
    have hld : D.load = ((parseP (D.readB stN)).getD zS, if (parseP (D.readB stN)).isSome then 0 else 60) := by rw [Dk.load, if_pos hc]
    refine AW.skip ?_
    refine hK1 _ _ ?_; try clear hK1 K1
    refine rg fun K hK => ?_
    refine st qK626 <| st (by exact SD.s rfl rfl rfl (by exact AStepD.bytes_str (bs := D.readB stN) tok rfl rfl .vec (flat_bytes _) rfl rfl rfl rfl rfl rfl rfl)) <| st (by exact SD.s rfl rfl rfl (by exact AStepD.callf rfl en18 rfl (parseS_calls _ (D.readB stN) (by show (D.findF stN).b.length ≤ _; omega)))) <| st qK618 <| st qK618 <| st0 (by exact ⟨rfl, rfl, (by exact st_store (parse_get_ok _) rfl rfl rfl qK615 zS_len rfl)⟩) <| st qK624 <| nt (hK _ _ ?_)
    clear hK K
    refine AW.ret (RetQ.mk (.inr rfl) (retA_st (parse_get_ok _) rfl rfl (AHeap.get_set_same _ _ _) (retA_tmp rfl qK62 retA_nil)) ⟨by rw [hld]; rfl, qK64⟩)
  · simp only [List.mem_cons, List.not_mem_nil, or_false] at hz
    rcases hz with rfl | rfl
    · exact .agg fun z hz => Stt.cs_pl _ (vecA_plain _) z hz
    · exact .v _

def carryB (a b : Stt) : Bool := rightB a && rightB b && decide (a.id = b.id) && decide (a.cur ≤ b.cur) && decide (a.vote ≤ b.vote) && decide (a.cfg ≤ b.cfg)
end Go.Proofs.YtcomjodfkcnjhaaGreatDoor

/- A disk, plainly: saves on a disk that isn't armed; what is loaded. -/

namespace Go.Proofs.YtcomjodfkcnjhaaGreatDoor
open Go.Ax
open Cel (c)
set_option linter.unusedSimpArgs false
set_option linter.unusedVariables false

structure Dk.Calm (D : Dk) : Prop where
  down : D.down = false
  left : D.left = -1
  fs : D.fs = [] ∨ ∃ f, D.fs = [(stN, f)]
def Dk.was (D : Dk) : Nat := match D.fs with | [] => 0 | p :: _ => p.2.b.length
theorem step_calm {D : Dk} (h : D.left = -1) : D.step = D := by rw [Dk.step, if_neg (by omega), if_neg (by omega)]
theorem others_calm {D : Dk} (h : D.Calm) : D.others nxN = D.was := by
  rcases h.fs with h | ⟨f, h⟩
  · rw [Dk.others, Dk.was, h]; rfl
  · rw [Dk.others, Dk.was, h]
    simp only [List.map_cons, List.map_nil, List.foldl_cons, List.foldl_nil, sizeO, if_neg nx_st.symm, Nat.zero_add]
def Dk.set1 (D : Dk) (t : List UInt8) : Dk := { D with fs := [(stN, ⟨t, true⟩)] }
theorem save_calm {D : Dk} (h : D.Calm) (s : Stt) : D.save s = if rightB s = true then (if ((docT s).length : Int) > D.room - (D.was : Nat) then (D, 51) else (D.set1 (docT s), 0)) else (D, 10) := by
  unfold Dk.save
  split
  · have hw : D.write nxN (docT s) = if ((docT s).length : Int) > D.room - (D.was : Nat) then (D, 51) else (D.put nxN ⟨docT s, false⟩, 0) := by
      rw [Dk.write, h.down, if_neg (by decide), others_calm h]
      split
      · rfl
      · simp only
        rw [step_calm (D := D.put nxN ⟨docT s, false⟩) h.left]
        show (_, if D.down = true then (50 : Int) else 0) = _
        rw [h.down]; rfl
    have e1 : D.stg (docT s) 1 = D.write nxN (docT s) := by rw [Dk.stg, Dk.stg, if_pos rfl]; rfl
    split
    · rename_i hs
      rw [if_pos hs] at hw
      rw [stg_stay (i := 1) (by omega) (by rw [e1, hw]; exact fun h => by cases h), e1, hw]
    · rename_i hs
      rw [if_neg hs] at hw
      have hu : (D.put nxN ⟨docT s, false⟩).down = false := h.down
      have hl : (D.put nxN ⟨docT s, false⟩).left = -1 := h.left
      obtain ⟨f1, f2⟩ := find_up hu nxN (has_put _ _ _)
      have e2 : D.stg (docT s) 2 = ((D.put nxN ⟨docT s, false⟩).put nxN ⟨docT s, true⟩, 0) := by
        rw [stg_next (by rw [e1, hw]), e1, hw]
        show (D.put nxN ⟨docT s, false⟩).sync nxN = _
        rw [Dk.sync, f1, if_neg (by decide), step_calm hl, hu, if_neg (by decide), f2, got_put]
      have hu2 : ((D.put nxN ⟨docT s, false⟩).put nxN ⟨docT s, true⟩).down = false := h.down
      have hl2 : ((D.put nxN ⟨docT s, false⟩).put nxN ⟨docT s, true⟩).left = -1 := h.left
      obtain ⟨f3, f4⟩ := find_up hu2 nxN (has_put _ _ _)
      rw [stg_next (by rw [e2]), e2]
      show ((D.put nxN ⟨docT s, false⟩).put nxN ⟨docT s, true⟩).rename nxN stN = _
      rw [Dk.rename, f3, if_neg (by decide), step_calm hl2, hu2, if_neg (by decide), f4, got_put, Dk.mv, Dk.set1]
      congr 2
      have k1 := nx_st
      have k2 := nx_st.symm
      rcases h.fs with hfs | ⟨f, hfs⟩
      · simp [Dk.put, hfs, putK, delK, k1, k2]
      · simp [Dk.put, hfs, putK, delK, k1, k2]
  · rfl
theorem load_kept {D : Dk} (h : D.down = false) : D.load = match D.kept with | none => (zS, 52) | some f => ((parseP f.b).getD zS, if (parseP f.b).isSome then 0 else 60) := by
  rw [Dk.load, Dk.findE, h, Dk.has, Dk.kept, Dk.readB, Dk.findF, h, Dk.got]
  cases getK D.fs stN <;> rfl
theorem load_doc {D : Dk} (h : D.down = false) {s : Stt} (ok : s.Ok) (hr : rightB s = true) {b : Bool} (hk : D.kept = some ⟨docT s, b⟩) : D.load = (s, 0) := by
  rw [load_kept h, hk]
  simp only [parse_doc ok hr, Option.getD_some, Option.isSome_some, if_true]
theorem set1_kept (D : Dk) (t : List UInt8) : (D.set1 t).kept = some ⟨t, true⟩ := by simp [Dk.set1, Dk.kept, getK]
theorem load_ok (D : Dk) : D.load.1.Ok := by
  rw [Dk.load]
  split
  · exact parse_get_ok _
  · exact zS_ok
end Go.Proofs.YtcomjodfkcnjhaaGreatDoor

/- Walks: the document's example; small; lists of states. -/

namespace Go.Proofs.YtcomjodfkcnjhaaGreatDoor
open Go.Ax
open Cel (c)
theorem qK71 {p : Prop} (h : p := by (conv => lhs; whnf); all_goals exact rfl) : p := h
theorem qK72 {p : Prop} (h : p := by (conv => lhs; whnf); all_goals first | exact rfl | (simp; done) | (simp; omega)) : p := h
theorem qK73 {p : Prop} (h : p := by first | exact rfl | exact (Int.toNat_of_nonneg (by omega)).symm) : p := h
theorem qK74 {p : Prop} (h : p := by first | omega | (simp; done) | (simp; omega) | (simp only [over, List.length_append, List.length_take, List.length_drop, *]; omega) | (simp_all; done) | (simp_all; omega)) : p := h
theorem qK75 {p : Prop} (h : p := by first | (simp only [Nat.zero_add, Nat.zero_mul, Nat.sub_zero, Nat.add_zero]; exact rfl) | exact rfl) : p := h
theorem qK76 {p : Prop} (h : p := by first | omega | (simp only [za, zb, zc, zd]; omega)) : p := h
theorem qK77 {p : Prop} (h : p := by first | exact Nat.le_of_ble_eq_true rfl | (simp; done) | (simp; omega) | (simp_all; omega)) : p := h
theorem qK78 {p : Prop} (h : p := by first | with_reducible assumption | (simp only [List.take_succ_cons, List.take_zero, List.drop_succ_cons, List.drop_zero]; exact rfl) | exact rfl) : p := h
theorem qK79 {p : Prop} (h : p := by exact AStepD.alloc tok rfl rfl) : p := h
theorem qK710 {p : Prop} (h : p := by first | exact AStepD.fieldAddr' tok rfl rfl rfl rfl rfl rfl rfl (by first | exact Nat.zero_add 5 | exact (show _ + 5 = _ from (by simp only [Nat.reduceAdd]; exact rfl)) | exact (show _ + 5 = _ + 5 from rfl) | exact rfl) | exact AStepD.fieldAddr_ip' tok rfl rfl rfl rfl rfl rfl rfl (show List.drop 5 _ = _ from rfl)) : p := h
theorem qK711 {p : Prop} (h : p := by repeat' (first | exact Keep.refl _ | with_reducible assumption | apply Keep.new | apply Keep.set | apply Keep.del | (first | omega | (simp only [za, zb, zc]; omega)))) : p := h
theorem qK712 {p : Prop} (h : p := by first | exact AStepD.eql rfl rfl rfl | exact AStepD.str_eql rfl rfl rfl | exact (AStepD.ptr_nil tok (.inl ⟨_, _, rfl⟩) rfl rfl rfl).1 rfl | exact (AStepD.nil_nil tok rfl rfl rfl rfl).1 rfl | exact (AStepD.bool_eq tok rfl rfl rfl rfl).1 rfl | exact (AStepD.ptr_same tok rfl rfl rfl rfl rfl).1 rfl | exact (AStepD.iface_nil tok rfl rfl rfl rfl).1 rfl | exact (AStepD.nilIface_nil tok rfl rfl rfl rfl).1 rfl) : p := h
theorem qK713 {p : Prop} (h : p := by exact AStepD.extract rfl rfl rfl) : p := h
theorem qK714 {p : Prop} (h : p := by (try simp only [za, zb, zc, zd, ne_eq]); omega) : p := h
theorem qK715 {p : Prop} (h : p := by intro h; first | (rw [h]; done) | (rw [h]; rfl) | (simp [h]; done) | (simp_all; done) | exact guard_true h) : p := h
theorem qK716 {p : Prop} (h : p := by exact AStepD.assign' rfl qK71) : p := h
theorem qK717 {p : Prop} (h : p := by exact AStepD.move' rfl qK71) : p := h
theorem qK718 {p : Prop} (h : p := by repeat' (first | exact SubT.nil _ | refine SubT.cons_eq qK72 ?_)) : p := h
theorem qK719 {p : Prop} (h : p := by first | exact AStepD.indexAddr_flat tok rfl rfl rfl rfl rfl rfl rfl (show _ = 134 from rfl) rfl qK73 qK74 | exact AStepD.indexAddr_vec' tok rfl rfl rfl rfl rfl rfl (show _ = 134 from rfl) qK73 qK74 | exact AStepD.indexAddr_sl' tok rfl rfl rfl rfl rfl rfl (show _ = 134 from rfl) qK73 qK74 qK75 | exact AStepD.indexAddr_arr' tok rfl rfl rfl rfl rfl rfl (show _ = 134 from rfl) qK73 qK74 qK75) : p := h
theorem qK720 {p : Prop} (h : p := by first | with_reducible assumption | (simp (disch := (first | omega | (exact Lst.lab_ne (by with_reducible assumption) qK76) | (exact Lst.lab_new (by with_reducible assumption) qK76) | (refine id ?_; simp only [za, zb, zc, zd]; done) | (simp only [za, zb, zc, zd]; omega))) only [z1, z2, z3, z4, z5, z6, z7, z8, z9, ne_eq, *]; done) | (simp (disch := (first | omega | (exact Lst.lab_ne (by with_reducible assumption) qK76) | (exact Lst.lab_new (by with_reducible assumption) qK76) | (refine id ?_; simp only [za, zb, zc, zd]; done) | (simp only [za, zb, zc, zd]; omega))) only [z1, z2, z3, z4, z5, z6, z7, z8, z9, ne_eq, *]; exact rfl)) : p := h
theorem qK721 {p : Prop} (h : p := by exact SD.s rfl rfl rfl qK79) : p := h
theorem qK722 {p : Prop} (h : p := by exact SD.s rfl rfl rfl qK713) : p := h
theorem qK723 {p : Prop} (h : p := by simp (disch := (first | omega | (exact Lst.lab_ne (by with_reducible assumption) qK76) | (exact Lst.lab_new (by with_reducible assumption) qK76) | (refine id ?_; simp only [za, zb, zc, zd]; done) | (simp only [za, zb, zc, zd]; omega))) only [z1, z2, z3, z4, z5, z6, z7, z8, z9, ne_eq]) : p := h
theorem qK724 {p : Prop} (h : p := by first | exact AStepD.pick_true' rfl rfl qK71 | exact AStepD.pick_false' rfl rfl qK71 | exact AStepD.and rfl _ _ _ rfl rfl qK715 rfl | exact AStepD.and' rfl _ _ rfl rfl rfl | exact AStepD.or rfl _ _ _ rfl rfl rfl qK715 | exact AStepD.or' rfl _ _ rfl rfl rfl) : p := h
theorem qK725 {p : Prop} (h : p := by exact SD.s rfl rfl rfl qK716) : p := h
theorem qK726 {p : Prop} (h : p := by exact SD.s rfl rfl rfl qK717) : p := h
theorem qK727 {p : Prop} (h : p := by first | exact AStepD.load_cel_ip tok rfl rfl rfl rfl (show _ = 134 from rfl) rfl | exact AStepD.load_agg tok rfl rfl rfl qK720 rfl (show _ = 134 from rfl) qK77 qK78 | exact AStepD.load_agg_ip tok rfl rfl rfl rfl (show _ = 134 from rfl) qK77 qK78) : p := h
theorem qK728 {p : Prop} (h : p := by exact (fun hb => by (repeat (first | apply UW.yes rfl (gpf hb) | apply UW.no)); exact UW.nil qK717)) : p := h
theorem qK729 {p : Prop} (h : p := by exact (fun _ hb => by (repeat (first | apply UW.yes rfl (gpf hb) | apply UW.no)); exact UW.nil qK717)) : p := h
theorem qK730 {p : Prop} (h : p := by exact SD.s rfl rfl rfl qK724) : p := h
theorem qK731 {p : Prop} (h : p := by first | exact GW.yes rfl rfl rfl rfl rfl rfl rfl qK717 | exact GW.no rfl rfl rfl rfl rfl rfl rfl | exact GW.none rfl rfl rfl rfl rfl | exact GW.may rfl rfl rfl rfl rfl rfl qK728 | exact GW.may2 rfl rfl rfl rfl rfl rfl qK729) : p := h
set_option linter.unusedSimpArgs false
set_option linter.unusedVariables false
set_option maxRecDepth 20000
open Cel (c)

abbrev St := { s : Stt // s.Ok }
instance : Cel St := ⟨134, fun s => s.1.cs (vecA s.1.known), fun s => s.2.fc _, fun s z hz => s.1.cs_one rfl z hz, fun s z hz => s.1.cs_pl (vecA_plain _) z hz⟩

def smallB (l : List St) (n : Int) : Bool := l.all (fun s => decide (s.1.known.length ≤ 40)) && decide ((l.length : Int) ≤ n)
theorem small_calls9 (H : AHeap) (l : List St) (n : Int) : ACalls Tryz.prog 9 [vecA l, .v (.int .i64 n)] H (fun r H' => r = .v (.bool (smallB l n)) ∧ H' = H) := by
  refine ACalls.quiet_keep ?_ (.v _)
  refine ACalls.of_body tok Tryz.func9 rfl Tryz.ntmps9 (Nat.le_of_ble_eq_true rfl) (fun base => ?_)
  refine rg fun K hK => ?_
  refine st qK725 <| nt (hK _ _ ?_)
  clear hK K
  refine AW.seq_k (fun K1 hK1 => ?_)
  refine rg fun K hK => ?_
  refine st qK726 <| st (by exact SD.s rfl rfl rfl (by exact AStepD.len_sl tok rfl rfl .vec rfl rfl)) <| st qK726 <| nt (hK _ _ ?_)
  clear hK K
  refine AW.len (s := 7) (x := vecA l) (k := l.length) rfl .vec fun hlen => ?_
  have hlen : l.length ≤ 9223372036854775807 := hlen
  refine AW.block ?_
  refine AW.loop_at (ι := Nat) (fun i => [(9, .v (.int .i64 (i : Nat))), (8, .v (.int .i64 (l.length : Nat))), (7, vecA l), (1, .v (.int .i64 n)), (0, vecA l)])
    (fun i H' => i ≤ l.length ∧ (∀ s ∈ l.take i, s.1.known.length ≤ 40) ∧ Keep H H') (fun i => l.length - i) 0 qK718 ⟨Nat.zero_le _, by simp, (by repeat' (first | exact Keep.refl _ | apply Keep.new | apply Keep.set | apply Keep.del | (first | omega | (simp only [za, zb, zc]; omega))))⟩ ?_
  rintro i H2 ⟨hi, hall, hk⟩
  have hkn := hk.1
  refine rg fun K hK => ?_
  refine st (by exact SD.s rfl rfl rfl (by exact AStepD.lss rfl rfl rfl)) <| nt (hK _ _ ?_)
  clear hK K
  refine AW.seq_k (fun K2 hK2 => ?_)
  refine AW.cond _ rfl (fun hc => ?_) (fun hc => ?_)
  · (try simp only [Bool.or_eq_true, Bool.and_eq_true, Bool.or_eq_false_iff, Bool.and_eq_false_iff, Bool.not_eq_true', Bool.not_eq_false', decide_eq_true_eq, decide_eq_false_iff_not, Int.not_lt, Int.not_le] at hc)
    have hil : i < l.length := by omega
    have hok := l[i].2
    refine AW.skip ?_
    refine hK2 _ _ ?_; try clear hK2 K2
    refine AW.seq_k (fun K3 hK3 => ?_)
    refine AW.block ?_
    refine rg fun K hK => ?_
    refine st (by exact SD.s rfl rfl rfl qK719) <| st (by exact SD.s rfl rfl rfl qK727) <| st qK721 <| st0 (by exact ⟨rfl, rfl, (by exact st_store hok rfl rfl rfl qK720 zS_len rfl)⟩) <| nt (hK _ _ ?_)
    clear hK K
    refine rg fun K hK => ?_
    refine st (by exact SD.s rfl rfl rfl qK710) <| st (by exact SD.s rfl rfl rfl (by exact AStepD.load_one tok rfl rfl rfl rfl qK720 rfl (show _ = some (vecA l[i].1.known) from rfl))) <| st (by exact SD.s rfl rfl rfl (by exact AStepD.len_sl tok rfl rfl .vec rfl rfl)) <| st (by exact SD.s rfl rfl rfl (by exact AStepD.gtr rfl rfl rfl)) <| nt (hK _ _ ?_)
    clear hK K
    refine AW.cond _ rfl (fun hc => ?_) (fun hc => ?_)
    · (try simp only [Bool.or_eq_true, Bool.and_eq_true, Bool.or_eq_false_iff, Bool.and_eq_false_iff, Bool.not_eq_true', Bool.not_eq_false', decide_eq_true_eq, decide_eq_false_iff_not, Int.not_lt, Int.not_le] at hc)
      refine rg fun K hK => ?_
      refine st qK725 <| nt (hK _ _ ?_)
      clear hK K
      refine AW.ret (RetQ.mk (.inr rfl) (retA_tmp rfl qK71 retA_nil) ⟨?_, qK711⟩)
      rw [smallB, show l.all (fun s => decide (s.1.known.length ≤ 40)) = false from ?_]
      · rfl
      · rw [List.all_eq_false]
        exact ⟨l[i], List.getElem_mem hil, by simp; omega⟩
    · (try simp only [Bool.or_eq_true, Bool.and_eq_true, Bool.or_eq_false_iff, Bool.and_eq_false_iff, Bool.not_eq_true', Bool.not_eq_false', decide_eq_true_eq, decide_eq_false_iff_not, Int.not_lt, Int.not_le] at hc)
      refine AW.skip ?_
      refine hK3 _ _ ?_; try clear hK3 K3
      refine AW.region ?_
      refine st (by exact SD.s rfl rfl rfl (by first | exact AStepD.add rfl rfl rfl (by first | exact IntWalk.i64_in _ (by omega) | exact IntWalk.i64_in _ (by simp only [Bool.or_eq_true, Bool.and_eq_true, Bool.or_eq_false_iff, Bool.and_eq_false_iff, Bool.not_eq_true', Bool.not_eq_false', decide_eq_true_eq, decide_eq_false_iff_not, Int.not_lt, Int.not_le, beq_iff_eq] at *; omega) | exact rfl) | exact AStepD.str_add rfl rfl rfl (by omega))) <| st qK726 <| AL.nil ?_
      refine ⟨i + 1, by omega, qK718, hil, fun s hs => ?_, qK711⟩
      rw [List.take_succ_eq_append_getElem hil] at hs
      rcases List.mem_append.1 hs with hs | hs
      · exact hall s hs
      · simp at hs; rw [hs]; omega
  · (try simp only [Bool.or_eq_true, Bool.and_eq_true, Bool.or_eq_false_iff, Bool.and_eq_false_iff, Bool.not_eq_true', Bool.not_eq_false', decide_eq_true_eq, decide_eq_false_iff_not, Int.not_lt, Int.not_le] at hc)
    have hil : i = l.length := by omega
    refine AW.exit ?_
    refine hK1 _ _ ?_; try clear hK1 K1
    refine rg fun K hK => ?_
    refine st qK726 <| st (by exact SD.s rfl rfl rfl (by exact AStepD.len_sl tok rfl rfl .vec rfl rfl)) <| st qK726 <| st (by exact SD.s rfl rfl rfl (by exact AStepD.leq rfl rfl rfl)) <| st qK725 <| nt (hK _ _ ?_)
    clear hK K
    refine AW.ret (RetQ.mk (.inr rfl) (retA_tmp rfl qK71 retA_nil) ⟨?_, qK711⟩)
    rw [smallB, show l.all (fun s => decide (s.1.known.length ≤ 40)) = true from ?_]
    · rfl
    · rw [List.all_eq_true]
      intro s hs
      rw [hil, List.take_length] at hall
      simpa using hall s hs

/-! ### The document's example -/
def exK : Stt := ⟨3, 0, 2, 0, 0, [], List.replicate 64 0, List.replicate 64 0⟩
theorem exK_ok : exK.Ok := ⟨rfl, rfl⟩
theorem exK_right : rightB exK = true := by
  rw [rightB, ownB, ownL_eq]
  decide +kernel
theorem exK_len : (docT exK).length ≤ 1000 := by decide +kernel
theorem exK_fill : afill (placesOf tt (match (tt 34).und with | .struct fs => fs | _ => #[])) (AV.ofV (tt 34).zero) [(0, .v (.int .i64 3)), (2, .agg [.v (.int .i64 2), .v (.int .i64 0), .v (.int .i64 0)])] = some (exK.cs (.v (.slice none 0 0))) := by
  have f : ∀ (s : Stt), s.Ok → ∀ y n, n ≤ 134 → n ≤ (s.cs y).length := fun s h y n hn => by rw [h.fc]; exact hn
  have k1 : ({ zS with id := 3 } : Stt).Ok := ⟨rfl, rfl⟩
  rw [zS_zero, afill_cons (off := 0) (size := 1) rfl rfl (f _ zS_ok _ _ (by decide)), show Ax.over (zS.cs (.v (.slice none 0 0))) 0 (AV.v (.int .i64 3)).cells = ({ zS with id := 3 } : Stt).cs (.v (.slice none 0 0)) from rfl,
    afill_cons (off := 2) (size := 3) rfl rfl (f _ k1 _ _ (by decide)), afill]
  rfl
theorem exK_one : ∀ p ∈ [((0 : Nat), AV.v (.int .i64 3)), (2, AV.agg [.v (.int .i64 2), .v (.int .i64 0), .v (.int .i64 0)])], ∀ x ∈ p.2.cells, x.one = true := by
  simp only [List.forall_mem_cons, AV.cells]
  exact ⟨⟨rfl, fun _ h => nomatch h⟩, ⟨rfl, rfl, rfl, fun _ h => nomatch h⟩, fun _ h => nomatch h⟩
def D0 (room : Int) : Dk := ⟨[], room, -1, false⟩
theorem D0_fine {room : Int} (h : 0 ≤ room ∧ room ≤ 65536) : (D0 room).Fine := ⟨by simp [D0, keysK], by simp [D0, keysK], by simp [D0], h, by simp [D0]⟩
theorem anchor_calls (H : AHeap) : ACalls Tryz.prog 8 [] H (fun r H' => r = .v (.bool true) ∧ H' = H) := by
  refine ACalls.quiet_keep ?_ (.v _)
  refine ACalls.of_body tok Tryz.func8 rfl Tryz.ntmps8 (Nat.le_of_ble_eq_true rfl) (fun base => ?_)
  refine rg fun K hK => ?_
  refine st qK725 <| nt (hK _ _ ?_)
  clear hK K
  refine rg fun K hK => ?_
  refine AL.call rfl rfl rfl (AStep.callf rfl en10 (new_calls _ 1000 (by decide) (by decide))) ?_; rintro _ H1 ⟨rfl, h1, hk1, hn1⟩
  refine st qK725 <| nt (hK _ _ ?_)
  clear hK K
  refine AW.seq_k (fun K1 hK1 => ?_)
  refine rg fun K hK => ?_
  refine st qK726 <| st (by exact SD.s rfl rfl rfl qK712) <| nt (hK _ _ ?_)
  clear hK K
  refine AW.cond _ rfl (fun hc => ?_) (fun hc => ?_)
  · cases hc
  refine AW.skip ?_
  refine hK1 _ _ ?_; try clear hK1 K1
  have hf0 := D0_fine (room := 1000) (by decide)
  have h1d := h1.d
  have h1m := h1.m
  refine rg fun K hK => ?_
  refine st qK726 <| st (by exact SD.s rfl rfl rfl (by exact AStepD.callf rfl en15 rfl (load_calls _ (H.next + 1) H.next (D0 1000) h1 hf0))) <| st qK726 <| st qK722 <| st qK722 <| st qK721 <| st0 (by exact ⟨rfl, rfl, (by exact st_store (s := (D0 1000).load.1) zS_ok rfl rfl rfl qK720 zS_len rfl)⟩) <| st qK725 <| nt (hK _ _ ?_)
  clear hK K
  refine rg fun K hK => ?_
  refine st (by exact SD.s rfl rfl rfl (by exact AStepD.val (AStepD.build tok rfl rfl rfl (by decide) rfl ex_one2) (y := .agg [.v (.int .i64 2), .v (.int .i64 0), .v (.int .i64 0)]) rfl)) <| st (by exact SD.s rfl rfl rfl (by exact AStepD.weak (AStepD.build tok rfl rfl rfl (by decide) exK_fill exK_one) (cs_sub exK (SubV.nil_vecA (α := Kn))))) <| st qK721 <| st0 (by exact ⟨rfl, rfl, (by exact st_store exK_ok rfl rfl rfl qK720 zS_len rfl)⟩) <| nt (hK _ _ ?_)
  clear hK K
  refine rg fun K hK => ?_
  refine st qK726 <| st (by exact SD.s rfl rfl rfl (by exact st_load exK_ok rfl rfl qK720)) <| ?_
  refine AL.call rfl rfl rfl (AStep.callf rfl en12 (save_calls _ (H.next + 1) H.next (D0 1000) exK exK_ok ⟨qK720, qK720⟩ hf0)) ?_; rintro _ H2 ⟨rfl, h2, o2⟩
  refine st qK725 <| nt (hK _ _ ?_)
  clear hK K
  have hn2 := o2.nx
  simp only [za, zb, zc] at hn2
  have hb2 : ∀ q, q < H1.next → ¬ both (H.next + 1) H.next q → H2.get q = H1.get q := fun q hq hn => (o2.gt q qK714 hn).trans qK723
  have hx4 : H2.get (H1.next + 1) = some (.cells 34 (exK.cs (vecA exK.known))) := (o2.gt _ qK714 (by rintro (e | e) <;> omega)).trans qK720
  have hca : (D0 1000).Calm := ⟨rfl, rfl, .inl rfl⟩
  have hx3 : (D0 1000).save exK = ((D0 1000).set1 (docT exK), 0) := by
    rw [save_calm hca, if_pos exK_right, if_neg (by have := doc4 exK_right; show ¬ ((docT exK).length : Int) > 1000 - ((0 : Nat) : Int); have := exK_len; omega)]
  have hf2 := hf0.save exK
  rw [hx3] at h2 hf2
  have hk2 : ((D0 1000).set1 (docT exK)).load = (exK, 0) := load_doc rfl exK_ok exK_right (set1_kept _ _)
  have hl0 : (D0 1000).load.2 = 52 := by rw [load_kept rfl]; rfl
  have h2d := h2.d
  have h2m := h2.m
  refine rg fun K hK => ?_
  refine st qK726 <| st (by exact SD.s rfl rfl rfl (by exact AStepD.callf rfl en15 rfl (load_calls _ (H.next + 1) H.next _ h2 hf2))) <| st qK726 <| st qK722 <| st qK722 <| st qK721 <| st0 (by exact ⟨rfl, rfl, (by exact st_store (s := exK) (y := vecA exK.known) exK_ok rfl rfl rfl qK720 zS_len (by rw [← show (D0 1000).set1 (docT exK) = ((D0 1000).set1 (docT exK), (0 : Int)).1 from rfl, hk2]; rfl))⟩) <| st qK725 <| nt (hK _ _ ?_)
  clear hK K
  have hx5 : ((H2.new (.cells 34 (AV.ofV (tt 34).zero))).set H2.next (.cells 34 (exK.cs (vecA exK.known)))).get (H1.next + 1) = some (.cells 34 (exK.cs (vecA exK.known))) := by
    rw [AHeap.get_set_ne _ _ (by omega), AHeap.get_new_ne _ _ (by omega)]; exact hx4
  have hx6 : ((H2.new (.cells 34 (AV.ofV (tt 34).zero))).set H2.next (.cells 34 (exK.cs (vecA exK.known)))).get H2.next = some (.cells 34 (exK.cs (vecA exK.known))) := AHeap.get_set_same _ _ _
  have hgs : (((D0 1000).set1 (docT exK)).got stN).safe = true := by simp [Dk.set1, Dk.got, getK]
  have hgd : DkAt H2 (H.next + 1) H.next ((D0 1000).set1 (docT exK)) := h2
  refine rg fun K hK => ?_
  refine st qK726 <| st (by exact SD.s rfl rfl rfl (by exact AStepD.bool (AStepD.eql rfl rfl rfl) (c := true) (by rw [hl0]; rfl))) <| st qK726 <| st (GW.p (l := [5]) qK731) <| st (GW.p (l := [29]) (by first | exact GW.yes rfl rfl rfl rfl rfl rfl rfl (by exact AStepD.bool (AStepD.eql rfl rfl rfl) (c := true) (by rw [hx3]; rfl)) | exact GW.no rfl rfl rfl rfl rfl rfl rfl | exact GW.none rfl rfl rfl rfl rfl | exact GW.may rfl rfl rfl rfl rfl rfl (fun hb => by (repeat (first | apply UW.yes rfl (gpf hb) | apply UW.no)); exact UW.nil (by exact AStepD.bool (AStepD.eql rfl rfl rfl) (c := true) (by rw [hx3]; rfl))) | exact GW.may2 rfl rfl rfl rfl rfl rfl (fun _ hb => by (repeat (first | apply UW.yes rfl (gpf hb) | apply UW.no)); exact UW.nil (by exact AStepD.bool (AStepD.eql rfl rfl rfl) (c := true) (by rw [hx3]; rfl))))) <| st qK730 <| st qK726 <| st (GW.p (l := [7]) qK731) <| st (GW.p (l := [33]) (by first | exact GW.yes rfl rfl rfl rfl rfl rfl rfl (by exact AStepD.bool (AStepD.eql rfl rfl rfl) (c := true) (by first | rfl | (rw [hk2]; rfl) | (have h9 := congrArg Prod.snd hk2; exact decide_eq_true h9))) | exact GW.no rfl rfl rfl rfl rfl rfl rfl | exact GW.none rfl rfl rfl rfl rfl | exact GW.may rfl rfl rfl rfl rfl rfl (fun hb => by (repeat (first | apply UW.yes rfl (gpf hb) | apply UW.no)); exact UW.nil (by exact AStepD.bool (AStepD.eql rfl rfl rfl) (c := true) (by first | rfl | (rw [hk2]; rfl) | (have h9 := congrArg Prod.snd hk2; exact decide_eq_true h9)))) | exact GW.may2 rfl rfl rfl rfl rfl rfl (fun _ hb => by (repeat (first | apply UW.yes rfl (gpf hb) | apply UW.no)); exact UW.nil (by exact AStepD.bool (AStepD.eql rfl rfl rfl) (c := true) (by first | rfl | (rw [hk2]; rfl) | (have h9 := congrArg Prod.snd hk2; exact decide_eq_true h9)))))) <| st qK730 <| st qK726 <| st (GW.p (l := [4]) (by first | exact GW.yes rfl rfl rfl rfl rfl rfl rfl (by exact st_load exK_ok rfl rfl hx5) | exact GW.no rfl rfl rfl rfl rfl rfl rfl | exact GW.none rfl rfl rfl rfl rfl | exact GW.may rfl rfl rfl rfl rfl rfl (fun hb => by (repeat (first | apply UW.yes rfl (gpf hb) | apply UW.no)); exact UW.nil (by exact st_load exK_ok rfl rfl hx5)) | exact GW.may2 rfl rfl rfl rfl rfl rfl (fun _ hb => by (repeat (first | apply UW.yes rfl (gpf hb) | apply UW.no)); exact UW.nil (by exact st_load exK_ok rfl rfl hx5)))) <| st (GW.p (l := [6]) (by first | exact GW.yes rfl rfl rfl rfl rfl rfl rfl (by exact st_load exK_ok rfl rfl hx6) | exact GW.no rfl rfl rfl rfl rfl rfl rfl | exact GW.none rfl rfl rfl rfl rfl | exact GW.may rfl rfl rfl rfl rfl rfl (fun hb => by (repeat (first | apply UW.yes rfl (gpf hb) | apply UW.no)); exact UW.nil (by exact st_load exK_ok rfl rfl hx6)) | exact GW.may2 rfl rfl rfl rfl rfl rfl (fun _ hb => by (repeat (first | apply UW.yes rfl (gpf hb) | apply UW.no)); exact UW.nil (by exact st_load exK_ok rfl rfl hx6)))) <| st (GW.p (l := [37, 38]) (by first | exact GW.yes rfl rfl rfl rfl rfl rfl rfl (by exact AStepD.bool (AStepD.callf rfl en16 rfl (same_calls _ exK exK exK_ok exK_ok)) (c := true) (by simp)) | exact GW.no rfl rfl rfl rfl rfl rfl rfl | exact GW.none rfl rfl rfl rfl rfl | exact GW.may rfl rfl rfl rfl rfl rfl (fun hb => by (repeat (first | apply UW.yes rfl (gpf hb) | apply UW.no)); exact UW.nil (by exact AStepD.bool (AStepD.callf rfl en16 rfl (same_calls _ exK exK exK_ok exK_ok)) (c := true) (by simp))) | exact GW.may2 rfl rfl rfl rfl rfl rfl (fun _ hb => by (repeat (first | apply UW.yes rfl (gpf hb) | apply UW.no)); exact UW.nil (by exact AStepD.bool (AStepD.callf rfl en16 rfl (same_calls _ exK exK exK_ok exK_ok)) (c := true) (by simp))))) <| st qK730 <| st qK726 <| st (GW.p (l := [1]) qK731) <| st (GW.p (l := [42]) (by first | exact GW.yes rfl rfl rfl rfl rfl rfl rfl (by exact AStepD.bool (AStepD.callf rfl en23 rfl (safe_calls _ (H.next + 1) H.next ((D0 1000).set1 (docT exK)) stN (hgd.same qK723 qK723))) hgs) | exact GW.no rfl rfl rfl rfl rfl rfl rfl | exact GW.none rfl rfl rfl rfl rfl | exact GW.may rfl rfl rfl rfl rfl rfl (fun hb => by (repeat (first | apply UW.yes rfl (gpf hb) | apply UW.no)); exact UW.nil (by exact AStepD.bool (AStepD.callf rfl en23 rfl (safe_calls _ (H.next + 1) H.next ((D0 1000).set1 (docT exK)) stN (hgd.same qK723 qK723))) hgs)) | exact GW.may2 rfl rfl rfl rfl rfl rfl (fun _ hb => by (repeat (first | apply UW.yes rfl (gpf hb) | apply UW.no)); exact UW.nil (by exact AStepD.bool (AStepD.callf rfl en23 rfl (safe_calls _ (H.next + 1) H.next ((D0 1000).set1 (docT exK)) stN (hgd.same qK723 qK723))) hgs)))) <| st qK730 <| st qK725 <| nt (hK _ _ ?_)
  clear hK K
  refine AW.ret (RetQ.mk (.inr rfl) (retA_tmp rfl qK71 retA_nil) ⟨rfl, qK714, fun q hq => ?_⟩)
  have := hk1.2 q hq
  rw [← this, ← hb2 q (by omega) (by rintro (e | e) <;> omega)]
  exact qK723
end Go.Proofs.YtcomjodfkcnjhaaGreatDoor
