/- Walks: a disk's small functions. -/
import Derived.Test.YtcomjodfkcnjhaaGreatDoorCX1
import Derived.Test.YtcomjodfkcnjhaaGreatDoorCE4
set_option linter.unusedSimpArgs false
set_option linter.unusedVariables false
namespace Go.Proofs.YtcomjodfkcnjhaaGreatDoor
open Go.Ax
open Cel (c)
theorem qK11 {p : Prop} (h : p := by exact SD.s rfl rfl rfl qP35) : p := h
theorem qK12 {p : Prop} (h : p := by first | exact one_cells (by with_reducible assumption) | exact qP21) : p := h
theorem qK13 {p : Prop} (h : p := by first | exact Nat.zero_add 3 | exact (show _ + 3 = _ from qP36) | exact (show _ + 3 = _ + 3 from rfl) | exact rfl) : p := h
theorem qK14 {p : Prop} (h : p := by simp (disch := (first | omega | (exact Lst.lab_ne (by with_reducible assumption) qP29) | (exact Lst.lab_new (by with_reducible assumption) qP29) | (refine id ?_; simp only [za, zb, zc, zd]; done) | (simp only [za, zb, zc, zd]; omega))) only [z1, z2, z3, z4, z5, z6, z7, z8, z9, ne_eq]) : p := h
theorem qK15 {p : Prop} (h : p := by first | exact retA_agg rfl rfl rfl qP219 rfl (show _ = 2 from rfl) qX119 qX120 (retA_tmp rfl qP21 retA_nil) | exact retA_one rfl rfl rfl rfl qP219 rfl qP210 (retA_tmp rfl qP21 retA_nil)) : p := h
theorem qK16 {p : Prop} (h : p := by first | exact AStepD.load_cel_ip tok rfl rfl rfl rfl (show _ = 2 from rfl) rfl | exact AStepD.load_agg tok rfl rfl rfl qP219 rfl (show _ = 2 from rfl) qX119 qX120 | exact AStepD.load_agg_ip tok rfl rfl rfl rfl (show _ = 2 from rfl) qX119 qX120) : p := h
theorem qK17 {p : Prop} (h : p := by exact AStepD.store' tok rfl rfl qP219 qP21 qK12 qP213 rfl qP21 rfl qX119 qX122) : p := h
theorem qK18 {p : Prop} (h : p := by first | exact AStepD.fieldAddr' tok rfl rfl rfl rfl rfl rfl rfl qK13 | exact AStepD.fieldAddr_ip' tok rfl rfl rfl rfl rfl rfl rfl (show List.drop 3 _ = _ from rfl)) : p := h
theorem qK19 {p : Prop} (h : p := by exact SD.s rfl rfl rfl qK18) : p := h
set_option linter.unusedSimpArgs false
set_option linter.unusedVariables false
set_option maxRecDepth 20000
open Cel (c)

structure Fil where
  b : List UInt8
  safe : Bool
deriving DecidableEq
abbrev Fil.av (f : Fil) : AV := .agg [vecA f.b, .v (.bool f.safe)]
def noFil : Fil := ⟨[], false⟩
structure Dk where
  fs : List (ByteArray × Fil)
  room : Int
  left : Int
  down : Bool
abbrev Dk.es (D : Dk) : List (Value × AV) := kmap (tmap Fil.av D.fs)
abbrev Dk.cs (D : Dk) (m : Nat) : List AV := [.map m, .v (.int .i64 D.room), .v (.int .i64 D.left), .v (.bool D.down)]
structure DkAt (H : AHeap) (d m : Nat) (D : Dk) : Prop where
  d : H.get d = some (.cells 58 (D.cs m))
  m : H.get m = some (.map D.es)
theorem DkAt.ne {H : AHeap} {d m : Nat} {D : Dk} (h : DkAt H d m D) : d ≠ m := by
  rintro rfl
  have := h.d.symm.trans h.m
  simp at this
theorem DkAt.same {H H' : AHeap} {d m : Nat} {D : Dk} (h : DkAt H d m D) (h1 : H'.get d = H.get d) (h2 : H'.get m = H.get m) : DkAt H' d m D := ⟨h1.trans h.d, h2.trans h.m⟩
theorem noFil_zero : SubV (.v (.agg #[.slice none 0 0, .bool false])) (Fil.av noFil) := by
  intro ρ I u h
  cases h
  exact .agg (vs := [_, _]) rfl fun i a u ha hu => by
    match i with
    | 0 => simp at ha hu; subst ha; subst hu; exact .vec0
    | 1 => simp at ha hu; subst ha; subst hu; exact .v _
    | i + 2 => simp at ha

theorem noFil_built : SubV (.agg (AV.ofV (tt 82).zero)) (Fil.av noFil) := by
  intro ρ I u h
  cases h with
  | @agg _ vs hl hv =>
    refine .agg hl fun i a u ha hu => ?_
    match i with
    | 0 =>
      have h0 := hv 0 (.v (.slice none 0 0)) u rfl hu
      cases h0
      simp only [List.getElem?_cons_zero, Option.some.injEq] at ha
      subst ha; exact .vec0
    | 1 =>
      have h0 := hv 1 (.v (.bool false)) u rfl hu
      cases h0
      simp only [List.getElem?_cons_succ, List.getElem?_cons_zero, Option.some.injEq] at ha
      subst ha; exact .v _
    | i + 2 => simp at ha

theorem new_calls (H : AHeap) (room : Int) (h0 : 0 ≤ room) (h1 : room ≤ 65536) : ACalls Tryz.prog 10 [.v (.int .i64 room)] H (fun r H' => r = .ptr (H.next + 1) 0 ∧ DkAt H' (H.next + 1) H.next ⟨[], room, -1, false⟩ ∧ Keep H H' ∧ H'.next = H.next + 2) := by
  refine ACalls.of_body tok Tryz.func10 rfl Tryz.ntmps10 (Nat.le_of_ble_eq_true rfl) (fun base => ?_)
  refine rg fun K hK => ?_
  refine st qP222 <| nt (hK _ _ ?_)
  clear hK K
  refine AW.seq_k (fun K1 hK1 => ?_)
  refine rg fun K hK => ?_
  refine st qP223 <| st (by exact SD.s rfl rfl rfl (by exact AStepD.bool (AStepD.lss rfl rfl rfl) (c := false) (by simp; omega))) <| st qP223 <| st (GW.p (l := [0]) qP318) <| st (GW.p (l := [6]) (by first | exact GW.yes rfl rfl rfl rfl rfl rfl rfl (by exact AStepD.bool (AStepD.gtr rfl rfl rfl) (c := false) (by simp; omega)) | exact GW.no rfl rfl rfl rfl rfl rfl rfl | exact GW.none rfl rfl rfl rfl rfl | exact GW.may rfl rfl rfl rfl rfl rfl (fun hb => by (repeat (first | apply UW.yes rfl (gpf hb) | apply UW.no)); exact UW.nil (by exact AStepD.bool (AStepD.gtr rfl rfl rfl) (c := false) (by simp; omega))) | exact GW.may2 rfl rfl rfl rfl rfl rfl (fun _ hb => by (repeat (first | apply UW.yes rfl (gpf hb) | apply UW.no)); exact UW.nil (by exact AStepD.bool (AStepD.gtr rfl rfl rfl) (c := false) (by simp; omega))))) <| st qP312 <| nt (hK _ _ ?_)
  clear hK K
  refine AW.cond _ rfl (fun hc => ?_) (fun hc => ?_)
  · cases hc
  refine AW.skip ?_
  refine hK1 _ _ ?_; try clear hK1 K1
  refine rg fun K hK => ?_
  refine st (by exact SD.s rfl rfl rfl (by exact AStepD.makeMap rfl)) <| st qP223 <| st (by exact SD.s rfl rfl rfl (by exact AStepD.val (AStepD.build tok rfl rfl rfl (by decide) rfl (show ∀ p ∈ [((0 : Nat), AV.map H.next), (1, .v (.int .i64 room)), (2, .v (.int .i64 (-1)))], ∀ x ∈ p.2.cells, x.one = true from by simp [AV.cells, AV.one, Value.oneCell'])) (y := .agg (Dk.cs ⟨[], room, -1, false⟩ H.next)) rfl)) <| st (by exact SD.s rfl rfl rfl (by first | exact AStepD.box1 rfl qP21 (by first | exact rfl | with_reducible assumption | exact Lst.one (by assumption)) | exact AStepD.box rfl qP21 qP213)) <| st qP222 <| nt (hK _ _ ?_)
  clear hK K
  refine AW.ret (RetQ.mk (.inr rfl) (retA_tmp rfl qP21 retA_nil) ⟨rfl, ⟨qP219, qP219⟩, qP24, rfl⟩)

def Dk.step (D : Dk) : Dk := if 0 < D.left then { D with left := D.left - 1 } else if D.left = 0 then { D with down := true } else D
theorem Dk.step_fs (D : Dk) : D.step.fs = D.fs := by unfold Dk.step; split; rfl; split <;> rfl
theorem Dk.step_room (D : Dk) : D.step.room = D.room := by unfold Dk.step; split; rfl; split <;> rfl
theorem step_calls (H : AHeap) (d m : Nat) (D : Dk) (h : DkAt H d m D) (hl : D.left ≤ 9223372036854775807) : ACalls Tryz.prog 43 [.ptr d 0] H (fun r H' => r = .v (.bool (!D.step.down)) ∧ DkAt H' d m D.step ∧ Only (· = d) H H') := by
  have hd := h.d
  have hm := h.m
  have hne := h.ne
  refine ACalls.of_body tok Tryz.func43 rfl Tryz.ntmps43 (Nat.le_of_ble_eq_true rfl) (fun base => ?_)
  refine rg fun K hK => ?_
  refine st qP222 <| nt (hK _ _ ?_)
  clear hK K
  refine AW.seq_k (fun K1 hK1 => ?_)
  refine AW.block ?_
  refine rg fun K hK => ?_
  refine st qP223 <| st qK11 <| st qX214 <| st qX22 <| st (by exact SD.s rfl rfl rfl qX117) <| st qP222 <| nt (hK _ _ ?_)
  clear hK K
  refine AW.cond _ rfl (fun hc => ?_) (fun hc => ?_)
  · have hc := of_decide_eq_true hc
    have hs : D.step = { D with left := D.left - 1 } := by rw [Dk.step, if_pos hc]
    refine AW.region ?_
    refine st qP223 <| st qK11 <| st qX214 <| st qX22 <| st (by exact SD.s rfl rfl rfl (by exact AStepD.sub rfl rfl rfl (by first | exact IntWalk.i64_in _ (by omega) | exact IntWalk.i64_in _ (by simp only [Bool.or_eq_true, Bool.and_eq_true, Bool.or_eq_false_iff, Bool.and_eq_false_iff, Bool.not_eq_true', Bool.not_eq_false', decide_eq_true_eq, decide_eq_false_iff_not, Int.not_lt, Int.not_le, beq_iff_eq] at *; omega) | exact rfl))) <| st qK11 <| st qX214 <| st0 (by exact ⟨rfl, rfl, qK17⟩) <| AL.nil ?_
    refine hK1 _ _ ?_; try clear hK1 K1
    refine rg fun K hK => ?_
    refine st qP223 <| st qK11 <| st qK19 <| st qX22 <| st (by exact SD.s rfl rfl rfl (by first | exact AStepD.not rfl rfl | exact AStepD.neg rfl rfl (by first | exact IntWalk.i64_in _ (by omega) | exact IntWalk.i64_in _ (by simp only [Bool.or_eq_true, Bool.and_eq_true, Bool.or_eq_false_iff, Bool.and_eq_false_iff, Bool.not_eq_true', Bool.not_eq_false', decide_eq_true_eq, decide_eq_false_iff_not, Int.not_lt, Int.not_le, beq_iff_eq] at *; omega) | exact rfl))) <| st qP222 <| nt (hK _ _ ?_)
    clear hK K
    refine AW.ret (RetQ.mk (.inr rfl) (retA_tmp rfl qP21 retA_nil) ⟨by rw [hs]; rfl, ⟨by rw [hs]; exact qP219, by rw [hs]; exact qP219⟩, (Only.refl _ _).set (.inl rfl)⟩)
  have hc := of_decide_eq_false hc
  refine rg fun K hK => ?_
  refine st qP223 <| st qK11 <| st qX214 <| st qX22 <| st (by exact SD.s rfl rfl rfl qP31) <| st qP222 <| nt (hK _ _ ?_)
  clear hK K
  refine AW.cond _ rfl (fun hc2 => ?_) (fun hc2 => ?_)
  · have hc2 := of_decide_eq_true hc2
    have hs : D.step = { D with down := true } := by rw [Dk.step, if_neg hc, if_pos hc2]
    refine AW.region ?_
    refine st qP223 <| st qK11 <| st qK19 <| st0 (by exact ⟨rfl, rfl, qK17⟩) <| AL.nil ?_
    refine hK1 _ _ ?_; try clear hK1 K1
    refine rg fun K hK => ?_
    refine st qP223 <| st qK11 <| st qK19 <| st qX22 <| st (by exact SD.s rfl rfl rfl (by first | exact AStepD.not rfl rfl | exact AStepD.neg rfl rfl (by first | exact IntWalk.i64_in _ (by omega) | exact IntWalk.i64_in _ (by simp only [Bool.or_eq_true, Bool.and_eq_true, Bool.or_eq_false_iff, Bool.and_eq_false_iff, Bool.not_eq_true', Bool.not_eq_false', decide_eq_true_eq, decide_eq_false_iff_not, Int.not_lt, Int.not_le, beq_iff_eq] at *; omega) | exact rfl))) <| st qP222 <| nt (hK _ _ ?_)
    clear hK K
    refine AW.ret (RetQ.mk (.inr rfl) (retA_tmp rfl qP21 retA_nil) ⟨by rw [hs]; rfl, ⟨by rw [hs]; exact qP219, by rw [hs]; exact qP219⟩, (Only.refl _ _).set (.inl rfl)⟩)
  have hc2 := of_decide_eq_false hc2
  have hs : D.step = D := by rw [Dk.step, if_neg hc, if_neg hc2]
  refine AW.skip ?_
  refine hK1 _ _ ?_; try clear hK1 K1
  refine rg fun K hK => ?_
  refine st qP223 <| st qK11 <| st qK19 <| st qX22 <| st (by exact SD.s rfl rfl rfl (by first | exact AStepD.not rfl rfl | exact AStepD.neg rfl rfl (by first | exact IntWalk.i64_in _ (by omega) | exact IntWalk.i64_in _ (by simp only [Bool.or_eq_true, Bool.and_eq_true, Bool.or_eq_false_iff, Bool.and_eq_false_iff, Bool.not_eq_true', Bool.not_eq_false', decide_eq_true_eq, decide_eq_false_iff_not, Int.not_lt, Int.not_le, beq_iff_eq] at *; omega) | exact rfl))) <| st qP222 <| nt (hK _ _ ?_)
  clear hK K
  refine AW.ret (RetQ.mk (.inr rfl) (retA_tmp rfl qP21 retA_nil) ⟨by rw [hs]; rfl, by rw [hs]; exact h, Only.refl _ _⟩)

def Dk.got (D : Dk) (n : ByteArray) : Fil := (getK D.fs n).getD noFil
def Dk.has (D : Dk) (n : ByteArray) : Bool := (getK D.fs n).isSome
def Dk.findE (D : Dk) (n : ByteArray) : Int := if D.down then 50 else if D.has n then 0 else 52
def Dk.findF (D : Dk) (n : ByteArray) : Fil := if D.down then noFil else D.got n
theorem look_file {o : Oper} {T : Fr} {H : AHeap} {d m : Nat} {D : Dk} {x y : Operand} {n : ByteArray} (h : DkAt H d m D) (ho : o.op = .lookup 56 x y true) (hx : aev T x = .map m) (hy : aev T y = .v (.string n)) : AStepD Tryz.prog o T H (.tup [Fil.av (D.got n), .v (.bool (D.has n))]) H := by
  refine AStepD.val (AStepD.klookup (κ := ByteArray) tok n ho hx hy rfl rfl rfl rfl rfl h.m (getK_tmap _ _ _) noFil_zero) ?_
  rw [Dk.got, Dk.has]
  cases getK D.fs n <;> rfl
theorem look_file1 {o : Oper} {T : Fr} {H : AHeap} {d m : Nat} {D : Dk} {x y : Operand} {n : ByteArray} (h : DkAt H d m D) (ho : o.op = .lookup 56 x y false) (hx : aev T x = .map m) (hy : aev T y = .v (.string n)) : AStepD Tryz.prog o T H (Fil.av (D.got n)) H := by
  refine AStepD.val (AStepD.klookup1 (κ := ByteArray) tok n ho hx hy rfl rfl rfl rfl rfl h.m (getK_tmap _ _ _) noFil_zero) ?_
  rw [Dk.got]
  cases getK D.fs n <;> rfl
theorem find_calls (H : AHeap) (d m : Nat) (D : Dk) (n : ByteArray) (h : DkAt H d m D) : ACalls Tryz.prog 70 [.ptr d 0, .v (.string n)] H (fun r H' => r = .tup [Fil.av (D.findF n), .v (.int .i64 (D.findE n))] ∧ H' = H) := by
  have hd := h.d
  have hm := h.m
  have hne := h.ne
  refine ACalls.lts fun hlt => ?_
  have hdl := hlt _ _ hd
  have hml := hlt _ _ hm
  refine ACalls.quiet_keep ?_ (.tup fun z hz => ?_)
  · refine ACalls.of_body tok Tryz.func70 rfl Tryz.ntmps70 (Nat.le_of_ble_eq_true rfl) (fun base => ?_)
    refine rg fun K hK => ?_
    refine st qP43 <| st qP222 <| nt (hK _ _ ?_)
    clear hK K
    refine rg fun K hK => ?_
    refine st qP223 <| st qK11 <| st qX21 <| st qX22 <| st qP223 <| st (by exact SD.s rfl rfl rfl (by exact look_file (d := d) (h.same qK14 qK14) rfl rfl rfl)) <| st qP223 <| st qP220 <| st qP220 <| st qP43 <| st0 (by exact ⟨rfl, rfl, qK17⟩) <| st qP222 <| nt (hK _ _ ?_)
    clear hK K
    refine AW.seq_k (fun K1 hK1 => ?_)
    refine AW.block ?_
    refine rg fun K hK => ?_
    refine st qP223 <| st qK11 <| st qK19 <| st qX22 <| st qP222 <| nt (hK _ _ ?_)
    clear hK K
    refine AW.cond _ rfl (fun hc => ?_) (fun hc => ?_)
    · have hc : D.down = true := hc
      refine rg fun K hK => ?_
      refine st (by exact SD.s rfl rfl rfl (by exact AStepD.weak (AStepD.build tok rfl rfl rfl (by decide) rfl qP213) noFil_built)) <| st0 (by exact ⟨rfl, rfl, qK17⟩) <| st qP222 <| nt (hK _ _ ?_)
      clear hK K
      refine AW.ret (RetQ.mk (.inr rfl) qK15 ⟨by rw [Dk.findF, Dk.findE, if_pos hc, if_pos hc]; rfl, qP24⟩)
    · have hc : D.down = false := hc
      refine rg fun K hK => ?_
      refine st qP223 <| st (by exact SD.s rfl rfl rfl (by first | exact AStepD.not rfl rfl | exact AStepD.neg rfl rfl (by first | exact IntWalk.i64_in _ (by omega) | exact IntWalk.i64_in _ (by simp only [Bool.or_eq_true, Bool.and_eq_true, Bool.or_eq_false_iff, Bool.and_eq_false_iff, Bool.not_eq_true', Bool.not_eq_false', decide_eq_true_eq, decide_eq_false_iff_not, Int.not_lt, Int.not_le, beq_iff_eq] at *; omega) | exact rfl))) <| st qP222 <| nt (hK _ _ ?_)
      clear hK K
      refine AW.cond _ rfl (fun hc2 => ?_) (fun hc2 => ?_)
      · have hc2 : D.has n = false := by simpa using hc2
        have hg : D.got n = noFil := by
          rw [Dk.has] at hc2; rw [Dk.got]
          cases hk : getK D.fs n with
          | none => rfl
          | some f => rw [hk] at hc2; cases hc2
        refine rg fun K hK => ?_
        refine st (by exact SD.s rfl rfl rfl (by exact AStepD.weak (AStepD.build tok rfl rfl rfl (by decide) rfl qP213) noFil_built)) <| st0 (by exact ⟨rfl, rfl, qK17⟩) <| st qP222 <| nt (hK _ _ ?_)
        clear hK K
        refine AW.ret (RetQ.mk (.inr rfl) qK15 ⟨by rw [Dk.findF, Dk.findE, hc, hc2, hg]; rfl, qP24⟩)
      · have hc2 : D.has n = true := by simpa using hc2
        refine AW.skip ?_
        refine hK1 _ _ ?_; try clear hK1 K1
        refine rg fun K hK => ?_
        refine st (by exact SD.s rfl rfl rfl qK16) <| st0 (by exact ⟨rfl, rfl, qK17⟩) <| st qP222 <| nt (hK _ _ ?_)
        clear hK K
        refine AW.ret (RetQ.mk (.inr rfl) qK15 ⟨by rw [Dk.findF, Dk.findE, hc, hc2]; rfl, qP24⟩)
  · simp only [List.mem_cons, List.not_mem_nil, or_false] at hz
    rcases hz with rfl | rfl
    · exact .agg fun z hz => by
        simp only [List.mem_cons, List.not_mem_nil, or_false] at hz
        rcases hz with rfl | rfl
        · exact vecA_plain _
        · exact .v _
    · exact .v _
end Go.Proofs.YtcomjodfkcnjhaaGreatDoor

/- Walks: names, how many bytes other files have, copies. -/

namespace Go.Proofs.YtcomjodfkcnjhaaGreatDoor
open Go.Ax
open Cel (c)
theorem qK21 {p : Prop} (h : p := by first | exact GW.yes rfl rfl rfl rfl rfl rfl rfl qP216 | exact GW.no rfl rfl rfl rfl rfl rfl rfl | exact GW.none rfl rfl rfl rfl rfl | exact GW.may rfl rfl rfl rfl rfl rfl (fun hb => by (repeat (first | apply UW.yes rfl (gpf hb) | apply UW.no)); exact UW.nil qP216) | exact GW.may2 rfl rfl rfl rfl rfl rfl (fun _ hb => by (repeat (first | apply UW.yes rfl (gpf hb) | apply UW.no)); exact UW.nil qP216)) : p := h
set_option linter.unusedSimpArgs false
set_option linter.unusedVariables false
set_option maxRecDepth 20000
open Cel (c)

theorem small_calls (H : AHeap) (b : UInt8) (h1 : 97 ≤ b.toNat) (h2 : b.toNat ≤ 122) : ACalls Tryz.prog 72 [.v (.int .i32 (b.toNat : Nat))] H (fun r H' => r = .v (.bool false) ∧ H' = H) := by
  refine ACalls.quiet_keep ?_ (.v _)
  refine ACalls.of_body tok Tryz.func72 rfl Tryz.ntmps72 (Nat.le_of_ble_eq_true rfl) (fun base => ?_)
  refine rg fun K hK => ?_
  refine st qP222 <| nt (hK _ _ ?_)
  clear hK K
  refine rg fun K hK => ?_
  refine st qP223 <| st (by exact SD.s rfl rfl rfl (by exact AStepD.bool (AStepD.lss rfl rfl rfl) (c := false) (by simp; omega))) <| st qP223 <| st (GW.p (l := [0]) qP318) <| st (GW.p (l := [6]) (by first | exact GW.yes rfl rfl rfl rfl rfl rfl rfl (by exact AStepD.bool (AStepD.gtr rfl rfl rfl) (c := false) (by simp; omega)) | exact GW.no rfl rfl rfl rfl rfl rfl rfl | exact GW.none rfl rfl rfl rfl rfl | exact GW.may rfl rfl rfl rfl rfl rfl (fun hb => by (repeat (first | apply UW.yes rfl (gpf hb) | apply UW.no)); exact UW.nil (by exact AStepD.bool (AStepD.gtr rfl rfl rfl) (c := false) (by simp; omega))) | exact GW.may2 rfl rfl rfl rfl rfl rfl (fun _ hb => by (repeat (first | apply UW.yes rfl (gpf hb) | apply UW.no)); exact UW.nil (by exact AStepD.bool (AStepD.gtr rfl rfl rfl) (c := false) (by simp; omega))))) <| st qP312 <| st qP222 <| nt (hK _ _ ?_)
  clear hK K
  refine AW.ret (RetQ.mk (.inr rfl) (retA_tmp rfl qP21 retA_nil) ⟨rfl, qP24⟩)

def Low (l : List UInt8) : Prop := ∀ b ∈ l, 97 ≤ b.toNat ∧ b.toNat ≤ 122
theorem idxs_calls (H : AHeap) (l : List UInt8) (hl : Low l) (hlen : l.length ≤ 1000) : ACalls Tryz.prog 116 [strA l, .func (.func 72) [], .v (.bool true)] H (fun r H' => r = .v (.int .i64 (-1)) ∧ H' = H) := by
  refine ACalls.quiet_keep ?_ (.v _)
  refine ACalls.of_body tok Tryz.func116 rfl Tryz.ntmps116 (Nat.le_of_ble_eq_true rfl) (fun base => ?_)
  refine rg fun K hK => ?_
  refine st qP222 <| nt (hK _ _ ?_)
  clear hK K
  refine AW.seq_k (fun K1 hK1 => ?_)
  refine rg fun K hK => ?_
  refine st qP223 <| st (by exact SD.s rfl rfl rfl (by exact AStepD.srange tok rfl rfl rfl rfl)) <| nt (hK _ _ ?_)
  clear hK K
  refine AW.block ?_
  refine AW.loop_at (ι := Nat) (fun i => [(10, .ptr H.next 0), (1, .func (.func 72) []), (2, .v (.bool true))])
    (fun i H' => i ≤ l.length ∧ H'.get H.next = some (.obj (.stringIter (str l) i)) ∧ Keep H H' ∧ H.next < H'.next) (fun i => l.length - i) 0 qP217 ⟨Nat.zero_le _, qP219, qP24, Nat.lt_succ_self _⟩ ?_
  rintro i H2 ⟨hi, hg, hk, hn⟩
  by_cases hil : i < l.length
  · have hb := hl l[i] (List.getElem_mem hil)
    refine rg fun K hK => ?_
    refine st (by exact SD.s rfl rfl rfl (by exact AStepD.snext (b := l[i]) rfl rfl hg (by rw [str_list, List.getElem?_eq_getElem hil]) (by omega))) <| st qP220 <| nt (hK _ _ ?_)
    clear hK K
    refine AW.seq_k (fun K2 hK2 => ?_)
    refine AW.cond _ rfl (fun hc => ?_) (fun hc => ?_)
    · refine AW.skip ?_
      refine hK2 _ _ ?_; try clear hK2 K2
      refine AW.block ?_
      refine rg fun K hK => ?_
      refine st qP220 <| st qP220 <| st qP222 <| st qP222 <| nt (hK _ _ ?_)
      clear hK K
      refine rg fun K hK => ?_
      refine st qP223 <| st qP223 <| st (by exact SD.s rfl rfl rfl (by exact AStepD.callv rfl rfl en72 rfl (small_calls _ l[i] hb.1 hb.2))) <| st qP223 <| st (by exact SD.s rfl rfl rfl qP31) <| nt (hK _ _ ?_)
      clear hK K
      refine AW.cond _ rfl (fun hc => ?_) (fun hc => ?_)
      · cases hc
      refine AW.skip ?_
      refine ⟨i + 1, by omega, qP217, hil, qP219, (hk.set (Nat.le_refl _)), hn⟩
    · cases hc
  · refine rg fun K hK => ?_
    refine st (by exact SD.s rfl rfl rfl (by exact AStepD.snext_end rfl rfl hg (by rw [str_size]; omega))) <| st qP220 <| nt (hK _ _ ?_)
    clear hK K
    refine AW.seq_k (fun K2 hK2 => ?_)
    refine AW.cond _ rfl (fun hc => ?_) (fun hc => ?_)
    · cases hc
    refine AW.exit ?_
    refine hK1 _ _ ?_; try clear hK1 K1
    refine rg fun K hK => ?_
    refine st qP222 <| nt (hK _ _ ?_)
    clear hK K
    refine AW.ret (RetQ.mk (.inr rfl) (retA_tmp rfl qP21 retA_nil) ⟨rfl, hk⟩)
theorem idxf_calls (H : AHeap) (l : List UInt8) (hl : Low l) (hlen : l.length ≤ 1000) : ACalls Tryz.prog 97 [strA l, .func (.func 72) []] H (fun r H' => r = .v (.int .i64 (-1)) ∧ H' = H) := by
  refine ACalls.quiet_keep ?_ (.v _)
  refine ACalls.of_body tok Tryz.func97 rfl Tryz.ntmps97 (Nat.le_of_ble_eq_true rfl) (fun base => ?_)
  refine rg fun K hK => ?_
  refine st qP222 <| nt (hK _ _ ?_)
  clear hK K
  refine rg fun K hK => ?_
  refine st qP223 <| st qP223 <| st (by exact SD.s rfl rfl rfl (by exact AStepD.callf rfl en116 rfl (idxs_calls _ l hl hlen))) <| st qP222 <| nt (hK _ _ ?_)
  clear hK K
  refine AW.ret (RetQ.mk (.inr rfl) (retA_tmp rfl qP21 retA_nil) ⟨rfl, qP24⟩)
theorem conf_calls (H : AHeap) (l : List UInt8) (hl : Low l) (hlen : l.length ≤ 1000) : ACalls Tryz.prog 71 [strA l, .func (.func 72) []] H (fun r H' => r = .v (.bool false) ∧ H' = H) := by
  refine ACalls.quiet_keep ?_ (.v _)
  refine ACalls.of_body tok Tryz.func71 rfl Tryz.ntmps71 (Nat.le_of_ble_eq_true rfl) (fun base => ?_)
  refine rg fun K hK => ?_
  refine st qP222 <| nt (hK _ _ ?_)
  clear hK K
  refine rg fun K hK => ?_
  refine st qP223 <| st qP223 <| st (by exact SD.s rfl rfl rfl (by exact AStepD.callf rfl en97 rfl (idxf_calls _ l hl hlen))) <| st qX130 <| st qP222 <| nt (hK _ _ ?_)
  clear hK K
  refine AW.ret (RetQ.mk (.inr rfl) (retA_tmp rfl qP21 retA_nil) ⟨rfl, qP24⟩)
theorem named_calls (H : AHeap) (l : List UInt8) (hl : Low l) (h0 : l ≠ []) (hlen : l.length ≤ 16) : ACalls Tryz.prog 40 [strA l] H (fun r H' => r = .v (.bool true) ∧ H' = H) := by
  refine ACalls.quiet_keep ?_ (.v _)
  have hsz := str_size l
  refine ACalls.of_body tok Tryz.func40 rfl Tryz.ntmps40 (Nat.le_of_ble_eq_true rfl) (fun base => ?_)
  refine rg fun K hK => ?_
  refine st qP222 <| nt (hK _ _ ?_)
  clear hK K
  refine rg fun K hK => ?_
  refine st qP223 <| st (by exact SD.s rfl rfl rfl (by exact AStepD.bool (AStepD.str_neq rfl rfl rfl) (c := true) (by simpa [str_list] using h0))) <| st qP223 <| st (GW.p (l := [0]) qP318) <| st (GW.p (l := [6]) qK21) <| st (GW.p (l := [7]) (by first | exact GW.yes rfl rfl rfl rfl rfl rfl rfl (by exact AStepD.bool (AStepD.leq rfl rfl rfl) (c := true) (by rw [hsz]; simp; omega)) | exact GW.no rfl rfl rfl rfl rfl rfl rfl | exact GW.none rfl rfl rfl rfl rfl | exact GW.may rfl rfl rfl rfl rfl rfl (fun hb => by (repeat (first | apply UW.yes rfl (gpf hb) | apply UW.no)); exact UW.nil (by exact AStepD.bool (AStepD.leq rfl rfl rfl) (c := true) (by rw [hsz]; simp; omega))) | exact GW.may2 rfl rfl rfl rfl rfl rfl (fun _ hb => by (repeat (first | apply UW.yes rfl (gpf hb) | apply UW.no)); exact UW.nil (by exact AStepD.bool (AStepD.leq rfl rfl rfl) (c := true) (by rw [hsz]; simp; omega))))) <| st qP312 <| st qP223 <| st (GW.p (l := [0]) qP318) <| st (GW.p (l := [11]) (by first | exact GW.yes rfl rfl rfl rfl rfl rfl rfl (by exact AStepD.callf rfl en71 rfl (conf_calls _ l hl (by omega))) | exact GW.no rfl rfl rfl rfl rfl rfl rfl | exact GW.none rfl rfl rfl rfl rfl | exact GW.may rfl rfl rfl rfl rfl rfl (fun hb => by (repeat (first | apply UW.yes rfl (gpf hb) | apply UW.no)); exact UW.nil (by exact AStepD.callf rfl en71 rfl (conf_calls _ l hl (by omega)))) | exact GW.may2 rfl rfl rfl rfl rfl rfl (fun _ hb => by (repeat (first | apply UW.yes rfl (gpf hb) | apply UW.no)); exact UW.nil (by exact AStepD.callf rfl en71 rfl (conf_calls _ l hl (by omega)))))) <| st (GW.p (l := [12]) (by first | exact GW.yes rfl rfl rfl rfl rfl rfl rfl (by first | exact AStepD.not rfl rfl | exact AStepD.neg rfl rfl (by first | exact IntWalk.i64_in _ (by omega) | exact IntWalk.i64_in _ (by simp only [Bool.or_eq_true, Bool.and_eq_true, Bool.or_eq_false_iff, Bool.and_eq_false_iff, Bool.not_eq_true', Bool.not_eq_false', decide_eq_true_eq, decide_eq_false_iff_not, Int.not_lt, Int.not_le, beq_iff_eq] at *; omega) | exact rfl)) | exact GW.no rfl rfl rfl rfl rfl rfl rfl | exact GW.none rfl rfl rfl rfl rfl | exact GW.may rfl rfl rfl rfl rfl rfl (fun hb => by (repeat (first | apply UW.yes rfl (gpf hb) | apply UW.no)); exact UW.nil (by first | exact AStepD.not rfl rfl | exact AStepD.neg rfl rfl (by first | exact IntWalk.i64_in _ (by omega) | exact IntWalk.i64_in _ (by simp only [Bool.or_eq_true, Bool.and_eq_true, Bool.or_eq_false_iff, Bool.and_eq_false_iff, Bool.not_eq_true', Bool.not_eq_false', decide_eq_true_eq, decide_eq_false_iff_not, Int.not_lt, Int.not_le, beq_iff_eq] at *; omega) | exact rfl))) | exact GW.may2 rfl rfl rfl rfl rfl rfl (fun _ hb => by (repeat (first | apply UW.yes rfl (gpf hb) | apply UW.no)); exact UW.nil (by first | exact AStepD.not rfl rfl | exact AStepD.neg rfl rfl (by first | exact IntWalk.i64_in _ (by omega) | exact IntWalk.i64_in _ (by simp only [Bool.or_eq_true, Bool.and_eq_true, Bool.or_eq_false_iff, Bool.and_eq_false_iff, Bool.not_eq_true', Bool.not_eq_false', decide_eq_true_eq, decide_eq_false_iff_not, Int.not_lt, Int.not_le, beq_iff_eq] at *; omega) | exact rfl))))) <| st qP312 <| st qP222 <| nt (hK _ _ ?_)
  clear hK K
  refine AW.ret (RetQ.mk (.inr rfl) (retA_tmp rfl qP21 retA_nil) ⟨rfl, qP24⟩)

/-! ### How many bytes other files have -/
def sizeO (n : ByteArray) (p : ByteArray × Fil) : Nat := if p.1 = n then 0 else p.2.b.length
def Dk.others (D : Dk) (n : ByteArray) : Nat := (D.fs.map (sizeO n)).foldl (· + ·) 0
theorem foldl_perm {l m : List Nat} (h : l.Perm m) : ∀ a, l.foldl (· + ·) a = m.foldl (· + ·) a := by
  induction h with
  | nil => intro a; rfl
  | cons x _ ih => intro a; exact ih _
  | swap x y l => intro a; simp only [List.foldl_cons]; rw [show a + y + x = a + x + y by omega]
  | trans _ _ h1 h2 => intro a; rw [h1, h2]
theorem foldl_add (l : List Nat) : ∀ a, l.foldl (· + ·) a = a + l.foldl (· + ·) 0 := by
  induction l with
  | nil => intro a; simp
  | cons x r ih => intro a; rw [List.foldl_cons, List.foldl_cons, ih, ih (0 + x)]; omega
def doneO (D : Dk) (n : ByteArray) (done : List Nat) : Nat := (done.map fun i => (D.fs[i]?).elim 0 (sizeO n)).foldl (· + ·) 0
theorem doneO_all (D : Dk) (n : ByteArray) {done : List Nat} (h : done.Perm (List.range D.fs.length)) : doneO D n done = D.others n := by
  rw [doneO, Dk.others, foldl_perm (h.map _)]
  congr 1
  refine List.ext_getElem (by simp) fun i h1 h2 => ?_
  simp only [List.length_map, List.length_range] at h1
  simp [h1]
theorem doneO_next (D : Dk) (n : ByteArray) (done : List Nat) (i : Nat) (p : ByteArray × Fil) (h : D.fs[i]? = some p) : doneO D n (done ++ [i]) = doneO D n done + sizeO n p := by
  simp only [doneO, List.map_append, List.map_cons, List.map_nil, List.foldl_append, List.foldl_cons, List.foldl_nil, h, Option.elim]
def Dk.Ok (D : Dk) : Prop := D.fs.length ≤ 2 ∧ ∀ p ∈ D.fs, p.2.b.length ≤ 65536
theorem sizeO_le {D : Dk} (h : D.Ok) (n : ByteArray) {i : Nat} {p : ByteArray × Fil} (hp : D.fs[i]? = some p) : sizeO n p ≤ 65536 := by
  unfold sizeO; split
  · exact Nat.zero_le _
  · exact h.2 p (List.mem_of_getElem? hp)
theorem doneO_le {D : Dk} (h : D.Ok) (n : ByteArray) : ∀ (done : List Nat), doneO D n done ≤ done.length * 65536 := by
  intro done
  induction done with
  | nil => simp [doneO]
  | cons i r ih =>
    simp only [doneO, List.map_cons, List.foldl_cons] at ih ⊢
    rw [foldl_add, Nat.zero_add, List.length_cons]
    have : (D.fs[i]?).elim 0 (sizeO n) ≤ 65536 := by
      cases hp : D.fs[i]? with
      | none => simp
      | some p => exact sizeO_le h n hp
    omega
theorem es_get {D : Dk} {i : Nat} {e : Value × AV} (h : D.es[i]? = some e) : ∃ p, D.fs[i]? = some p ∧ e = (.string p.1, Fil.av p.2) := by
  simp only [Dk.es, kmap, tmap, List.map_map, List.getElem?_map, Option.map_eq_some_iff] at h
  obtain ⟨p, hp, rfl⟩ := h
  exact ⟨p, hp, rfl⟩
theorem es_len (D : Dk) : D.es.length = D.fs.length := by simp [Dk.es, kmap, tmap]

theorem others_calls (H : AHeap) (d m : Nat) (D : Dk) (n : ByteArray) (h : DkAt H d m D) (hok : D.Ok) : ACalls Tryz.prog 41 [.ptr d 0, .v (.string n)] H (fun r H' => r = .v (.int .i64 (D.others n : Nat)) ∧ H' = H) := by
  have hd := h.d
  have hm := h.m
  have hne := h.ne
  refine ACalls.lts fun hlt => ?_
  have hdl := hlt _ _ hd
  have hml := hlt _ _ hm
  refine ACalls.quiet_keep ?_ (.v _)
  refine ACalls.of_body tok Tryz.func41 rfl Tryz.ntmps41 (Nat.le_of_ble_eq_true rfl) (fun base => ?_)
  refine rg fun K hK => ?_
  refine st qP222 <| nt (hK _ _ ?_)
  clear hK K
  refine rg fun K hK => ?_
  refine st qP222 <| nt (hK _ _ ?_)
  clear hK K
  refine AW.seq_k (fun K1 hK1 => ?_)
  refine rg fun K hK => ?_
  refine st qP223 <| st qK11 <| st qX21 <| st qX22 <| ?_
  refine AL.call rfl rfl rfl (AStep.rng tok rfl rfl rfl rfl hm hml) ?_; rintro _ H1 ⟨rfl, hr, hk1, hn1⟩
  refine nt (hK _ _ ?_)
  clear hK K
  refine AW.block ?_
  refine AW.loop_at (ι := List Nat) (fun done => [(5, .v (.int .i64 (doneO D n done : Nat))), (12, .ptr H.next 0), (1, .v (.string n))])
    (fun done H' => done.length ≤ D.es.length ∧ Rng H' m H.next D.es done ∧ Only (· = m) H H' ∧ H.next < H'.next) (fun done => D.es.length - done.length) [] qP217 ⟨Nat.zero_le _, hr, ⟨by omega, fun q h1 h2 => hk1 q h1 h2⟩, by omega⟩ ?_
  rintro done H2 ⟨hdl2, hr2, ho2, hn2⟩
  refine AW.seq_region (fun K hK => ?_)
  refine AL.call rfl rfl rfl (AStep.nxt rfl rfl hr2 (by omega)) ?_
  rintro _ H3 (⟨hall, rfl, rfl⟩ | ⟨i, e, he, hni, hdn, rfl, hr3, hk3, hn3⟩)
  · refine AL.step rfl rfl rfl qP211 ?_
    refine AL.nil_then (hK _ _ ?_); clear hK K
    refine AW.seq_k (fun K2 hK2 => ?_)
    refine AW.cond _ rfl (fun hc => ?_) (fun hc => ?_)
    · cases hc
    refine AW.exit ?_
    refine hK1 _ _ ?_; try clear hK1 K1
    refine AW.rngEnd hr2 ?_
    refine rg fun K hK => ?_
    refine st qP223 <| st qP222 <| nt (hK _ _ ?_)
    clear hK K
    refine AW.ret (RetQ.mk (.inr rfl) (retA_tmp rfl qP21 retA_nil) ⟨?_, ?_⟩)
    · rw [doneO_all D n (by have := hr2.all hall; rwa [es_len] at this)]; rfl
    · refine (ho2.set (.inl rfl)).back ?_
      rintro q hq rfl
      rw [AHeap.get_set_same, hm]
  · refine AL.step rfl rfl rfl qP211 ?_
    refine AL.nil_then (hK _ _ ?_); clear hK K
    obtain ⟨p, hp, rfl⟩ := es_get he
    have hsz := sizeO_le hok n hp
    have hdo := doneO_le hok n done
    have hdl3 : done.length ≤ 2 := by have := hok.1; rw [es_len] at hdl2; omega
    have hnx := doneO_next D n done i p hp
    have ho3 : Only (· = m) H H3 := ⟨by have := ho2.nx; omega, fun q h1 h2 => (hk3 q (by omega)).trans (ho2.gt q h1 h2)⟩
    refine AW.seq_k (fun K2 hK2 => ?_)
    refine AW.cond _ rfl (fun hc => ?_) (fun hc => ?_)
    · refine AW.skip ?_
      refine hK2 _ _ ?_; try clear hK2 K2
      refine AW.block ?_
      refine rg fun K hK => ?_
      refine st (by exact SD.s rfl rfl rfl (by exact AStepD.ent rfl rfl hr3 he)) <| st qP220 <| st qP220 <| st qP43 <| st qP222 <| st0 (by exact ⟨rfl, rfl, qK17⟩) <| nt (hK _ _ ?_)
      clear hK K
      refine rg fun K hK => ?_
      refine st qP223 <| st qP223 <| st (by exact SD.s rfl rfl rfl qP23) <| nt (hK _ _ ?_)
      clear hK K
      have hpn : (p.1.data.toList = n.data.toList) ↔ p.1 = n := ⟨fun e => by rw [str_of p.1, str_of n, e], fun e => by rw [e]⟩
      have hend : ∀ Hq : AHeap, Rng Hq m H.next D.es (done ++ [i]) → Only (· = m) H Hq → H.next < Hq.next → D.es.length - (done ++ [i]).length < D.es.length - done.length ∧ (done ++ [i]).length ≤ D.es.length ∧ Rng Hq m H.next D.es (done ++ [i]) ∧ Only (· = m) H Hq ∧ H.next < Hq.next := fun Hq q1 q2 q3 => ⟨by simp; omega, by simp; omega, q1, q2, q3⟩
      have hlab : H3.next ≠ m ∧ H3.next ≠ H.next := by omega
      have hR : Rng ((H3.new (.cells 82 (AV.ofV (tt 82).zero))).set H3.next (.cells 82 [vecA p.2.b, .v (.bool p.2.safe)])) m H.next D.es (done ++ [i]) := hr3.keep qK14 qK14
      refine AW.cond _ rfl (fun hc => ?_) (fun hc => ?_)
      · have hc : sizeO n p = p.2.b.length := by
          rw [sizeO, if_neg]
          intro e
          have := hpn.2 e
          simp [this] at hc
        refine AW.region ?_
        refine st qP223 <| st qX21 <| st qX22 <| st qP224 <| st (by exact SD.s rfl rfl rfl (by first | exact AStepD.add rfl rfl rfl (by first | exact IntWalk.i64_in _ (by omega) | exact IntWalk.i64_in _ (by simp only [Bool.or_eq_true, Bool.and_eq_true, Bool.or_eq_false_iff, Bool.and_eq_false_iff, Bool.not_eq_true', Bool.not_eq_false', decide_eq_true_eq, decide_eq_false_iff_not, Int.not_lt, Int.not_le, beq_iff_eq] at *; omega) | exact rfl) | exact AStepD.str_add rfl rfl rfl (by omega))) <| st qP222 <| AL.nil ?_
        have hq := hend _ hR (ho3.new.set (.inr (by omega))) qX118
        refine ⟨done ++ [i], hq.1, qP217, hq.2⟩
      · have hc : sizeO n p = 0 := by
          rw [sizeO, if_pos]
          refine hpn.1 ?_
          simpa using hc
        refine AW.skip ?_
        have hq := hend _ hR (ho3.new.set (.inr (by omega))) qX118
        refine ⟨done ++ [i], hq.1, qP217, hq.2⟩
    · cases hc
end Go.Proofs.YtcomjodfkcnjhaaGreatDoor

/- Walks: a disk's calls: read, write, sync, rename, safe, arm. -/

namespace Go.Proofs.YtcomjodfkcnjhaaGreatDoor
open Go.Ax
open Cel (c)
theorem qK31 {p : Prop} (h : p := by first | exact AStepD.buildSlice0 tok rfl rfl rfl rfl (show _ = 1 from rfl) | exact AStepD.buildSlice1 tok rfl rfl rfl rfl (show _ = 1 from rfl) qP21 qP21 qP27 (by decide) qP213 | exact AStepD.buildSlice_seq tok rfl rfl rfl rfl (show _ = 1 from rfl) map_n rfl (by decide) (by decide) rfl qP32 qP213 | exact AStepD.buildSlice tok rfl rfl rfl rfl qP21 (by decide) (by decide) rfl qP213) : p := h
theorem qK32 {p : Prop} (h : p := by exact SD.s rfl rfl rfl qP23) : p := h
set_option linter.unusedSimpArgs false
set_option linter.unusedVariables false
set_option maxRecDepth 20000
open Cel (c)

theorem nil_vec : SubV (.v (.slice none 0 0)) (vecA ([] : List UInt8)) := by
  intro ρ I u h
  cases h
  exact .vec0
theorem bclone_calls (H : AHeap) (x : AV) (l : List UInt8) (hs : Ax.Src (H.new (.cells 5 [])) 1 x l.length (flat l)) (hl : l.length ≤ 1000000) : ACalls Tryz.prog 42 [x] H (fun r H' => r = vecA l ∧ H' = H) := by
  refine ACalls.quiet_keep ?_ (vecA_plain _)
  have hfl : (flat l).length = l.length := (flat_length l).trans (Nat.mul_one _)
  refine ACalls.of_body tok Tryz.func42 rfl Tryz.ntmps42 (Nat.le_of_ble_eq_true rfl) (fun base => ?_)
  refine rg fun K hK => ?_
  refine st qP222 <| nt (hK _ _ ?_)
  clear hK K
  refine AW.seq_k (fun K1 hK1 => ?_)
  refine AW.seq_region (fun K hK => ?_)
  refine AL.step rfl rfl rfl qP215 ?_
  refine AL.call rfl rfl rfl ((AStep.eq_nil tok rfl hs.isSl rfl rfl rfl)) ?_
  rintro _ H ⟨rfl, b, rfl, hb⟩
  refine AL.nil_then (hK _ _ ?_); clear hK K
  refine AW.cond _ rfl (fun hc => ?_) (fun hc => ?_)
  · have h0 : l = [] := List.eq_nil_of_length_eq_zero (hb hc)
    subst h0
    refine rg fun K hK => ?_
    refine st (by exact SD.s rfl rfl rfl (by exact AStepD.weak (AStepD.assign' rfl rfl) nil_vec)) <| nt (hK _ _ ?_)
    clear hK K
    refine AW.ret (RetQ.mk (.inr rfl) (retA_tmp rfl qP21 retA_nil) ⟨rfl, qP24⟩)
  refine AW.skip ?_
  refine hK1 _ _ ?_; try clear hK1 K1
  refine rg fun K hK => ?_
  refine st (by exact SD.s rfl rfl rfl qK31) <| st qP223 <| st (by exact SD.s rfl rfl rfl (by exact AStepD.append' (bk := 1) (l := H.next) (cs := []) (ys := flat l) (n := l.length) (m := l.length) (zs := flat l) (src := x) tok rfl rfl rfl rfl rfl rfl rfl rfl (show _ = 1 from rfl) rfl (by rw [AHeap.get_new_same]) rfl rfl hs (by rw [hfl, Nat.mul_one]) (flat_ones l) (by omega) (by omega) (Nat.zero_add _) rfl)) <| st qP222 <| nt (hK _ _ ?_)
  clear hK K
  refine AW.ret (RetQ.frz (.inr rfl) (retA_tmp rfl qP21 retA_nil) (l := H.next + 1) (t := 5) (cs := flat l) qP219 (.sl (by rw [hfl, Nat.mul_one, Nat.zero_add]; exact Nat.le_refl _)) ⟨?_, qP24⟩)
  rw [List.drop_zero, Nat.mul_one, List.take_of_length_le (by omega)]

def Dk.readB (D : Dk) (n : ByteArray) : List UInt8 := (D.findF n).b
theorem findF_no {D : Dk} {n : ByteArray} (h : D.findE n ≠ 0) : D.findF n = noFil := by
  unfold Dk.findE at h; unfold Dk.findF
  split
  · rfl
  · rename_i hd
    rw [if_neg hd] at h
    rw [Dk.got]
    by_cases hh : D.has n = true
    · rw [if_pos hh] at h; exact absurd rfl h
    · rw [Dk.has] at hh
      cases hk : getK D.fs n with
      | none => rfl
      | some f => rw [hk] at hh; exact absurd rfl hh
theorem find_le {D : Dk} (hok : D.Ok) (n : ByteArray) : (D.findF n).b.length ≤ 65536 := by
  unfold Dk.findF
  split
  · exact Nat.zero_le _
  · rw [Dk.got]
    cases hk : getK D.fs n with
    | none => exact Nat.zero_le _
    | some f => exact hok.2 _ (getK_some_mem hk)
theorem dread_calls (H : AHeap) (d m : Nat) (D : Dk) (n : ByteArray) (h : DkAt H d m D) (hok : D.Ok) : ACalls Tryz.prog 39 [.ptr d 0, .v (.string n)] H (fun r H' => r = .tup [vecA (D.readB n), .v (.int .i64 (D.findE n))] ∧ H' = H) := by
  have hd := h.d
  have hm := h.m
  have hle := find_le hok n
  refine ACalls.quiet_keep ?_ (.tup fun z hz => ?_)
  · refine ACalls.of_body tok Tryz.func39 rfl Tryz.ntmps39 (Nat.le_of_ble_eq_true rfl) (fun base => ?_)
    refine rg fun K hK => ?_
    refine st qP222 <| st qP222 <| nt (hK _ _ ?_)
    clear hK K
    refine rg fun K hK => ?_
    refine st qP223 <| st qP223 <| st (by exact SD.s rfl rfl rfl (by exact AStepD.callf rfl en70 rfl (find_calls _ d m D n h))) <| st qP223 <| st qP220 <| st qP220 <| st qP43 <| st0 (by exact ⟨rfl, rfl, qK17⟩) <| st qP222 <| nt (hK _ _ ?_)
    clear hK K
    refine AW.seq_k (fun K1 hK1 => ?_)
    refine rg fun K hK => ?_
    refine st qP223 <| st qK32 <| nt (hK _ _ ?_)
    clear hK K
    refine AW.cond _ rfl (fun hc => ?_) (fun hc => ?_)
    · have hc : D.findE n ≠ 0 := by simpa using hc
      refine rg fun K hK => ?_
      refine st qP223 <| st (by exact SD.s rfl rfl rfl (by exact AStepD.weak (AStepD.assign' rfl rfl) nil_vec)) <| st qP222 <| nt (hK _ _ ?_)
      clear hK K
      refine AW.ret (RetQ.mk (.inr rfl) (retA_tmp rfl qP21 (retA_tmp rfl qP21 retA_nil)) ⟨by rw [Dk.readB, findF_no hc]; rfl, qP24⟩)
    have hc : D.findE n = 0 := by simpa using hc
    refine AW.skip ?_
    refine hK1 _ _ ?_; try clear hK1 K1
    refine rg fun K hK => ?_
    refine st qX21 <| st qX22 <| st (by exact SD.s rfl rfl rfl (by exact AStepD.callf rfl en42 rfl (bclone_calls _ _ (D.findF n).b .vec (by omega)))) <| st qP222 <| st qP222 <| nt (hK _ _ ?_)
    clear hK K
    refine AW.ret (RetQ.mk (.inr rfl) (retA_tmp rfl qP21 (retA_tmp rfl qP21 retA_nil)) ⟨by rw [hc]; rfl, qP24⟩)
  · simp only [List.mem_cons, List.not_mem_nil, or_false] at hz
    rcases hz with rfl | rfl
    · exact vecA_plain _
    · exact .v _
theorem safe_calls (H : AHeap) (d m : Nat) (D : Dk) (n : ByteArray) (h : DkAt H d m D) : ACalls Tryz.prog 23 [.ptr d 0, .v (.string n)] H (fun r H' => r = .v (.bool (D.got n).safe) ∧ H' = H) := by
  have hd := h.d
  have hm := h.m
  refine ACalls.quiet_keep ?_ (.v _)
  refine ACalls.of_body tok Tryz.func23 rfl Tryz.ntmps23 (Nat.le_of_ble_eq_true rfl) (fun base => ?_)
  refine rg fun K hK => ?_
  refine st qP222 <| nt (hK _ _ ?_)
  clear hK K
  refine rg fun K hK => ?_
  refine st qP223 <| st qK11 <| st qX21 <| st qX22 <| st qP223 <| st (by exact SD.s rfl rfl rfl (by exact look_file1 h rfl rfl rfl)) <| st (by exact SD.s rfl rfl rfl (by exact AStepD.field' tok rfl rfl rfl rfl rfl rfl qX119 (agg_one rfl) qP21)) <| st qP222 <| nt (hK _ _ ?_)
  clear hK K
  refine AW.ret (RetQ.mk (.inr rfl) (retA_tmp rfl qP21 retA_nil) ⟨rfl, qP24⟩)
/-! ### Writes -/
abbrev lowS (n : List UInt8) : Prop := Low n ∧ n ≠ [] ∧ n.length ≤ 16
def Dk.put (D : Dk) (n : ByteArray) (f : Fil) : Dk := { D with fs := putK D.fs n f }
def Dk.write (D : Dk) (n : ByteArray) (b : List UInt8) : Dk × Int :=
  if D.down then (D, 50) else if (b.length : Int) > D.room - (D.others n : Nat) then (D, 51) else
    let D1 := (D.put n ⟨b, false⟩).step; (D1, if D1.down then 50 else 0)
theorem others_le {D : Dk} (h : D.Ok) (n : ByteArray) : D.others n ≤ 131072 := by
  rw [← doneO_all D n (List.Perm.refl _)]
  have := doneO_le h n (List.range D.fs.length)
  have := h.1
  rw [List.length_range] at *
  omega
abbrev both (d m : Nat) (q : Nat) : Prop := q = d ∨ q = m
set_option maxHeartbeats 1000000 in
theorem write_calls (H : AHeap) (d m : Nat) (D : Dk) (n : List UInt8) (x : AV) (b : List UInt8) (h : DkAt H d m D) (hok : D.Ok) (hn : lowS n) (hs : Ax.Src (H.new (.cells 5 [])) 1 x b.length (flat b)) (hb : b.length ≤ 1000000) (hr : 0 ≤ D.room ∧ D.room ≤ 65536) (hl : D.left ≤ 9223372036854775807) :
    ACalls Tryz.prog 17 [.ptr d 0, strA n, x] H (fun r H' => r = .v (.int .i64 (D.write (str n) b).2) ∧ DkAt H' d m (D.write (str n) b).1 ∧ Only (both d m) H H') := by
  have hd := h.d
  have hm := h.m
  have hne := h.ne
  have hsl := hs.isSl
  have hol := others_le hok (str n)
  refine ACalls.of_body tok Tryz.func17 rfl Tryz.ntmps17 (Nat.le_of_ble_eq_true rfl) (fun base => ?_)
  refine rg fun K hK => ?_
  refine st qP222 <| nt (hK _ _ ?_)
  clear hK K
  refine AW.seq_k (fun K1 hK1 => ?_)
  refine AW.block ?_
  refine rg fun K hK => ?_
  refine st qP223 <| st qK11 <| st qK19 <| st qX22 <| st qP222 <| nt (hK _ _ ?_)
  clear hK K
  refine AW.cond _ rfl (fun hc => ?_) (fun hc => ?_)
  · have hc : D.down = true := hc
    refine rg fun K hK => ?_
    refine st qP222 <| nt (hK _ _ ?_)
    clear hK K
    refine AW.ret (RetQ.mk (.inr rfl) (retA_tmp rfl qP21 retA_nil) ⟨by rw [Dk.write, if_pos hc]; rfl, by rw [Dk.write, if_pos hc]; exact h, Only.refl _ _⟩)
  have hdn : D.down = false := hc
  refine rg fun K hK => ?_
  refine st qP223 <| st (by exact SD.s rfl rfl rfl (by exact AStepD.callf rfl en40 rfl (named_calls _ n hn.1 hn.2.1 hn.2.2))) <| st (by exact SD.s rfl rfl rfl (by first | exact AStepD.not rfl rfl | exact AStepD.neg rfl rfl (by first | exact IntWalk.i64_in _ (by omega) | exact IntWalk.i64_in _ (by simp only [Bool.or_eq_true, Bool.and_eq_true, Bool.or_eq_false_iff, Bool.and_eq_false_iff, Bool.not_eq_true', Bool.not_eq_false', decide_eq_true_eq, decide_eq_false_iff_not, Int.not_lt, Int.not_le, beq_iff_eq] at *; omega) | exact rfl))) <| st qP222 <| nt (hK _ _ ?_)
  clear hK K
  refine AW.cond _ rfl (fun hc => ?_) (fun hc => ?_)
  · cases hc
  clear hc
  refine AW.seq_k (fun K hK => ?_)
  apply AW.draw mixed [_, _, _, _, _, _, _, _, _, _, _, _] [] [_] [(0, 0), (1, 0), (2, 0), (3, 0), (4, 0), (5, 0), (6, 0), (7, 0), (8, 0), (9, 0), (10, 0), (11, 0)] rfl rfl rfl qP33
  · refine ⟨?_, ?_, ?_, ?_, ?_, ?_, ?_, ?_, ?_, ?_, ?_, ?_⟩
    · refine Ob.mk _ [2] 0 rfl rfl (restr_cons qP21 restr_nil) rfl ?_
      simp only [List.getD_cons_zero, List.getD_cons_succ]
      exact GStep.plain rfl qP215
    · refine Ob.mk _ [17] 0 rfl rfl (restr_cons qP21 restr_nil) rfl ?_
      simp only [List.getD_cons_zero, List.getD_cons_succ]
      exact GStep.plain rfl (by exact AStepD.len_sl tok rfl rfl hsl rfl rfl)
    · refine Ob.mk _ [0] 0 rfl rfl (restr_cons qP21 restr_nil) rfl ?_
      simp only [List.getD_cons_zero, List.getD_cons_succ]
      exact GStep.plain rfl qP215
    · refine Ob.mk _ [19] 0 rfl rfl (restr_cons qP21 restr_nil) rfl ?_
      simp only [List.getD_cons_zero, List.getD_cons_succ]
      exact GStep.plain rfl qP35
    · refine Ob.mk _ [20] 0 rfl rfl (restr_cons qP21 restr_nil) rfl ?_
      simp only [List.getD_cons_zero, List.getD_cons_succ]
      exact GStep.plain rfl qX211
    · refine Ob.mk _ [21] 0 rfl rfl (restr_cons qP21 restr_nil) rfl ?_
      simp only [List.getD_cons_zero, List.getD_cons_succ]
      exact GStep.plain rfl qP34
    · refine Ob.mk _ [0] 0 rfl rfl (restr_cons qP21 restr_nil) rfl ?_
      simp only [List.getD_cons_zero, List.getD_cons_succ]
      exact GStep.plain rfl qP215
    · refine Ob.mk _ [1] 0 rfl rfl (restr_cons qP21 restr_nil) rfl ?_
      simp only [List.getD_cons_zero, List.getD_cons_succ]
      exact GStep.plain rfl qP215
    · refine Ob.mk _ [23, 24] 0 rfl rfl (restr_cons qP21 (restr_cons qP21 restr_nil)) rfl ?_
      simp only [List.getD_cons_zero, List.getD_cons_succ]
      exact GStep.plain rfl (by exact AStepD.callf rfl en41 rfl (others_calls _ d m D (str n) h hok))
    · refine Ob.mk _ [22, 25] 0 rfl rfl (restr_cons qP21 (restr_cons qP21 restr_nil)) rfl ?_
      simp only [List.getD_cons_zero, List.getD_cons_succ]
      exact GStep.plain rfl (by exact AStepD.sub rfl rfl rfl (by first | exact IntWalk.i64_in _ (by omega) | exact IntWalk.i64_in _ (by simp only [Bool.or_eq_true, Bool.and_eq_true, Bool.or_eq_false_iff, Bool.and_eq_false_iff, Bool.not_eq_true', Bool.not_eq_false', decide_eq_true_eq, decide_eq_false_iff_not, Int.not_lt, Int.not_le, beq_iff_eq] at *; omega) | exact rfl))
    · refine Ob.mk _ [18, 26] 0 rfl rfl (restr_cons qP21 (restr_cons qP21 restr_nil)) rfl ?_
      simp only [List.getD_cons_zero, List.getD_cons_succ]
      exact GStep.plain rfl qX117
    · refine Ob.mk _ [27] 0 rfl rfl (restr_cons qP21 restr_nil) rfl ?_
      simp only [List.getD_cons_zero, List.getD_cons_succ]
      exact GStep.plain rfl qP214
  refine hK _ _ ?_; clear hK K
  refine AW.frame qP38 qP39 ?_
  refine AW.cond _ rfl (fun hc => ?_) (fun hc => ?_)
  · have hc := of_decide_eq_true hc
    refine rg fun K hK => ?_
    refine st qP222 <| nt (hK _ _ ?_)
    clear hK K
    refine AW.ret (RetQ.mk (.inr rfl) (retA_tmp rfl qP21 retA_nil) ⟨by rw [Dk.write, hdn, if_neg Bool.false_ne_true, if_pos hc]; rfl, by rw [Dk.write, hdn, if_neg Bool.false_ne_true, if_pos hc]; exact h, Only.refl _ _⟩)
  have hc := of_decide_eq_false hc
  have hw : D.write (str n) b = ((D.put (str n) ⟨b, false⟩).step, if (D.put (str n) ⟨b, false⟩).step.down then 50 else 0) := by rw [Dk.write, hdn, if_neg Bool.false_ne_true, if_neg hc]
  refine AW.skip ?_
  refine hK1 _ _ ?_; try clear hK1 K1
  refine AW.seq_k (fun K hK => ?_)
  apply AW.draw mixed [_, _, _, _, _, _, _, _, _] [6, 8] [_, _, _] [(0, 0), (1, 0), (2, 0), (3, 0), (4, 0), (5, 0), (6, 0), (7, 1), (8, 1), (0, 1), (1, 1), (2, 1), (3, 1), (4, 1)] rfl rfl rfl qP33
  · refine ⟨?_, ?_, ?_, ?_, ?_, ?_, ?_, ?_, ?_, ?_, ?_, ?_, ?_, ?_⟩
    · refine Ob.mk _ [0] 0 rfl rfl (restr_cons qP21 restr_nil) rfl ?_
      simp only [List.getD_cons_zero, List.getD_cons_succ]
      exact GStep.plain rfl qP215
    · refine Ob.mk _ [28] 0 rfl rfl (restr_cons qP21 restr_nil) rfl ?_
      simp only [List.getD_cons_zero, List.getD_cons_succ]
      exact GStep.plain rfl qP35
    · refine Ob.mk _ [29] 0 rfl rfl (restr_cons qP21 restr_nil) rfl ?_
      simp only [List.getD_cons_zero, List.getD_cons_succ]
      exact GStep.plain rfl qP321
    · refine Ob.mk _ [30] 0 rfl rfl (restr_cons qP21 restr_nil) rfl ?_
      simp only [List.getD_cons_zero, List.getD_cons_succ]
      exact GStep.plain rfl qP34
    · refine Ob.mk _ [1] 0 rfl rfl (restr_cons qP21 restr_nil) rfl ?_
      simp only [List.getD_cons_zero, List.getD_cons_succ]
      exact GStep.plain rfl qP215
    · refine Ob.mk _ [2] 0 rfl rfl (restr_cons qP21 restr_nil) rfl ?_
      simp only [List.getD_cons_zero, List.getD_cons_succ]
      exact GStep.plain rfl qP215
    · refine Ob.mk _ [33] 1 rfl rfl (restr_cons qP21 restr_nil) rfl ?_
      simp only [List.getD_cons_zero, List.getD_cons_succ]
      exact GStep.plain rfl (by exact AStepD.callf rfl en42 rfl (bclone_calls _ x b hs hb))
    · refine Ob.mk _ [34] 1 rfl rfl (restr_cons qP21 restr_nil) rfl ?_
      simp only [List.getD_cons_zero, List.getD_cons_succ]
      exact GStep.plain rfl (by exact AStepD.val (AStepD.build tok rfl rfl rfl (by decide) rfl (show ∀ p ∈ [((0 : Nat), vecA b)], ∀ x ∈ p.2.cells, x.one = true from by simp [AV.cells, AV.one])) (show _ = Fil.av ⟨b, false⟩ from rfl))
    · refine Ob.mk _ [31, 32, 35] 2 rfl rfl (restr_cons qP21 (restr_cons qP21 (restr_cons qP21 restr_nil))) rfl ?_
      simp only [List.getD_cons_zero, List.getD_cons_succ]
      exact GStep.plain rfl (by exact AStepD.kmapUpdate (κ := ByteArray) (v := Fil.av ⟨b, false⟩) tok (str n) rfl rfl rfl rfl rfl rfl rfl rfl hm (putK_tmap Fil.av D.fs (str n) ⟨b, false⟩))
    · refine Ob.mk _ [0] 1 rfl rfl (restr_cons qP21 restr_nil) rfl ?_
      simp only [List.getD_cons_zero, List.getD_cons_succ]
      exact GStep.plain rfl qP215
    · refine Ob.mk _ [28] 1 rfl rfl (restr_cons qP21 restr_nil) rfl ?_
      simp only [List.getD_cons_zero, List.getD_cons_succ]
      exact GStep.plain rfl qP35
    · refine Ob.mk _ [29] 1 rfl rfl (restr_cons qP21 restr_nil) rfl ?_
      simp only [List.getD_cons_zero, List.getD_cons_succ]
      exact GStep.plain rfl qP321
    · refine Ob.mk _ [30] 1 rfl rfl (restr_cons qP21 restr_nil) rfl ?_
      simp only [List.getD_cons_zero, List.getD_cons_succ]
      exact GStep.plain rfl qP34
    · refine Ob.mk _ [1] 1 rfl rfl (restr_cons qP21 restr_nil) rfl ?_
      simp only [List.getD_cons_zero, List.getD_cons_succ]
      exact GStep.plain rfl qP215
  refine hK _ _ ?_; clear hK K
  refine AW.frame qP38 qP39 ?_
  refine AW.seq_k (fun K2 hK2 => ?_)
  refine rg fun K hK => ?_
  refine st qP223 <| ?_
  refine AL.call rfl rfl rfl (AStep.callf rfl en43 (step_calls _ d m (D.put (str n) ⟨b, false⟩) ⟨qP219, qP219⟩ hl)) ?_; rintro _ H2 ⟨rfl, h2, o2⟩
  refine st (by exact SD.s rfl rfl rfl (by first | exact AStepD.not rfl rfl | exact AStepD.neg rfl rfl (by first | exact IntWalk.i64_in _ (by omega) | exact IntWalk.i64_in _ (by simp only [Bool.or_eq_true, Bool.and_eq_true, Bool.or_eq_false_iff, Bool.and_eq_false_iff, Bool.not_eq_true', Bool.not_eq_false', decide_eq_true_eq, decide_eq_false_iff_not, Int.not_lt, Int.not_le, beq_iff_eq] at *; omega) | exact rfl))) <| nt (hK _ _ ?_)
  clear hK K
  have ho : Only (both d m) H H2 := ((Only.refl (both d m) H).set (l := m) (.inl (.inr rfl))).trans (o2.sub fun q _ e => .inl e)
  refine AW.cond _ rfl (fun hc => ?_) (fun hc => ?_)
  · have hc : (D.put (str n) ⟨b, false⟩).step.down = true := by simpa using hc
    refine rg fun K hK => ?_
    refine st qP222 <| nt (hK _ _ ?_)
    clear hK K
    refine AW.ret (RetQ.mk (.inr rfl) (retA_tmp rfl qP21 retA_nil) ⟨by rw [hw, hc]; rfl, by rw [hw]; exact h2, ho⟩)
  · have hc : (D.put (str n) ⟨b, false⟩).step.down = false := by simpa using hc
    refine AW.skip ?_
    refine hK2 _ _ ?_; try clear hK2 K2
    refine rg fun K hK => ?_
    refine st qP222 <| nt (hK _ _ ?_)
    clear hK K
    refine AW.ret (RetQ.mk (.inr rfl) (retA_tmp rfl qP21 retA_nil) ⟨by rw [hw, hc]; rfl, by rw [hw]; exact h2, ho⟩)

def Dk.sync (D : Dk) (n : ByteArray) : Dk × Int :=
  if D.findE n ≠ 0 then (D, D.findE n) else if D.step.down then (D.step, 50) else (D.step.put n ⟨(D.findF n).b, true⟩, 0)
theorem sync_calls (H : AHeap) (d m : Nat) (D : Dk) (n : ByteArray) (h : DkAt H d m D) (hl : D.left ≤ 9223372036854775807) :
    ACalls Tryz.prog 33 [.ptr d 0, .v (.string n)] H (fun r H' => r = .v (.int .i64 (D.sync n).2) ∧ DkAt H' d m (D.sync n).1 ∧ Only (both d m) H H') := by
  have hd := h.d
  have hm := h.m
  have hne := h.ne
  refine ACalls.lts fun hlt => ?_
  have hdl := hlt _ _ hd
  have hml := hlt _ _ hm
  refine ACalls.of_body tok Tryz.func33 rfl Tryz.ntmps33 (Nat.le_of_ble_eq_true rfl) (fun base => ?_)
  refine rg fun K hK => ?_
  refine st qP222 <| nt (hK _ _ ?_)
  clear hK K
  refine rg fun K hK => ?_
  refine st qP223 <| st qP223 <| st (by exact SD.s rfl rfl rfl (by exact AStepD.callf rfl en70 rfl (find_calls _ d m D n h))) <| st qP223 <| st qP220 <| st qP220 <| st qP43 <| st0 (by exact ⟨rfl, rfl, qK17⟩) <| st qP222 <| nt (hK _ _ ?_)
  clear hK K
  refine AW.seq_k (fun K1 hK1 => ?_)
  refine AW.block ?_
  refine rg fun K hK => ?_
  refine st qP223 <| st qK32 <| st qP222 <| nt (hK _ _ ?_)
  clear hK K
  refine AW.cond _ rfl (fun hc => ?_) (fun hc => ?_)
  · have hc : D.findE n ≠ 0 := by simpa using hc
    refine rg fun K hK => ?_
    refine st qP223 <| st qP222 <| nt (hK _ _ ?_)
    clear hK K
    refine AW.ret (RetQ.mk (.inr rfl) (retA_tmp rfl qP21 retA_nil) ⟨by rw [Dk.sync, if_pos hc]; rfl, by rw [Dk.sync, if_pos hc]; exact ⟨qP219, qP219⟩, Only.keep qP24⟩)
  have hc : ¬ D.findE n ≠ 0 := by simpa using hc
  refine rg fun K hK => ?_
  refine st qP223 <| ?_
  refine AL.call rfl rfl rfl (AStep.callf rfl en43 (step_calls _ d m D ⟨qP219, qP219⟩ hl)) ?_; rintro _ H2 ⟨rfl, h2, o2⟩
  refine st (by exact SD.s rfl rfl rfl (by first | exact AStepD.not rfl rfl | exact AStepD.neg rfl rfl (by first | exact IntWalk.i64_in _ (by omega) | exact IntWalk.i64_in _ (by simp only [Bool.or_eq_true, Bool.and_eq_true, Bool.or_eq_false_iff, Bool.and_eq_false_iff, Bool.not_eq_true', Bool.not_eq_false', decide_eq_true_eq, decide_eq_false_iff_not, Int.not_lt, Int.not_le, beq_iff_eq] at *; omega) | exact rfl))) <| st qP222 <| nt (hK _ _ ?_)
  clear hK K
  have ho : Only (both d m) H H2 := (Only.keep qP24).trans (o2.sub fun q _ e => .inl e)
  have hx : H2.get H.next = some (.cells 82 [vecA (D.findF n).b, .v (.bool (D.findF n).safe)]) := (o2.gt _ qX118 (by omega)).trans qK14
  have hnx := o2.nx
  simp only [za, zb] at hnx
  refine AW.cond _ rfl (fun hc2 => ?_) (fun hc2 => ?_)
  · have hc2 : D.step.down = true := by simpa using hc2
    refine rg fun K hK => ?_
    refine st qP222 <| nt (hK _ _ ?_)
    clear hK K
    refine AW.ret (RetQ.mk (.inr rfl) (retA_tmp rfl qP21 retA_nil) ⟨by rw [Dk.sync, if_neg hc, if_pos hc2]; rfl, by rw [Dk.sync, if_neg hc, if_pos hc2]; exact h2, ho⟩)
  have hc2 : D.step.down = false := by simpa using hc2
  have hd2 := h2.d
  have hm2 := h2.m
  have hs : D.sync n = (D.step.put n ⟨(D.findF n).b, true⟩, 0) := by rw [Dk.sync, if_neg hc, if_neg (by rw [hc2]; decide)]
  refine AW.skip ?_
  refine hK1 _ _ ?_; try clear hK1 K1
  refine rg fun K hK => ?_
  refine st qX213 <| st0 (by exact ⟨rfl, rfl, qK17⟩) <| nt (hK _ _ ?_)
  clear hK K
  refine AW.seq_k (fun K hK => ?_)
  apply AW.draw mixed [_, _, _, _, _, _, _] [6] [_, _] [(0, 0), (1, 0), (2, 0), (3, 0), (4, 0), (5, 0), (6, 0)] rfl rfl rfl qP33
  · refine ⟨?_, ?_, ?_, ?_, ?_, ?_, ?_⟩
    · refine Ob.mk _ [0] 0 rfl rfl (restr_cons qP21 restr_nil) rfl ?_
      simp only [List.getD_cons_zero, List.getD_cons_succ]
      exact GStep.plain rfl qP215
    · refine Ob.mk _ [22] 0 rfl rfl (restr_cons qP21 restr_nil) rfl ?_
      simp only [List.getD_cons_zero, List.getD_cons_succ]
      exact GStep.plain rfl qP35
    · refine Ob.mk _ [23] 0 rfl rfl (restr_cons qP21 restr_nil) rfl ?_
      simp only [List.getD_cons_zero, List.getD_cons_succ]
      exact GStep.plain rfl qP321
    · refine Ob.mk _ [24] 0 rfl rfl (restr_cons qP21 restr_nil) rfl ?_
      simp only [List.getD_cons_zero, List.getD_cons_succ]
      exact GStep.plain rfl qP34
    · refine Ob.mk _ [1] 0 rfl rfl (restr_cons qP21 restr_nil) rfl ?_
      simp only [List.getD_cons_zero, List.getD_cons_succ]
      exact GStep.plain rfl qP215
    · refine Ob.mk _ [5] 0 rfl rfl (restr_cons qP21 restr_nil) rfl ?_
      simp only [List.getD_cons_zero, List.getD_cons_succ]
      exact GStep.plain rfl (by exact AStepD.val (AStepD.load_agg tok rfl rfl rfl qP219 rfl (show _ = 2 from rfl) qX119 rfl) (y := Fil.av ⟨(D.findF n).b, true⟩) rfl)
    · refine Ob.mk _ [25, 26, 27] 1 rfl rfl (restr_cons qP21 (restr_cons qP21 (restr_cons qP21 restr_nil))) rfl ?_
      simp only [List.getD_cons_zero, List.getD_cons_succ]
      exact GStep.plain rfl (by exact AStepD.kmapUpdate (κ := ByteArray) (v := Fil.av ⟨(D.findF n).b, true⟩) tok n rfl rfl rfl rfl rfl rfl rfl rfl qP219 (putK_tmap Fil.av D.step.fs n ⟨(D.findF n).b, true⟩))
  refine hK _ _ ?_; clear hK K
  refine AW.frame qP38 qP39 ?_
  refine rg fun K hK => ?_
  refine st qP222 <| nt (hK _ _ ?_)
  clear hK K
  refine AW.ret (RetQ.mk (.inr rfl) (retA_tmp rfl qP21 retA_nil) ⟨by rw [hs]; rfl, by rw [hs]; exact ⟨qP219, qP219⟩, (ho.set (.inr (Nat.le_refl _))).set (.inl (.inr rfl))⟩)

def Dk.mv (D : Dk) (a b : ByteArray) (f : Fil) : Dk := { D with fs := putK (delK D.fs a) b f }
def Dk.rename (D : Dk) (a b : ByteArray) : Dk × Int :=
  if D.findE a ≠ 0 then (D, D.findE a) else if D.step.down then (D.step, 50) else (D.step.mv a b (D.findF a), 0)
theorem rename_calls (H : AHeap) (d m : Nat) (D : Dk) (a : ByteArray) (b : List UInt8) (hn : lowS b) (h : DkAt H d m D) (hl : D.left ≤ 9223372036854775807) :
    ACalls Tryz.prog 35 [.ptr d 0, .v (.string a), strA b] H (fun r H' => r = .v (.int .i64 (D.rename a (str b)).2) ∧ DkAt H' d m (D.rename a (str b)).1 ∧ Only (both d m) H H') := by
  have hd := h.d
  have hm := h.m
  have hne := h.ne
  refine ACalls.lts fun hlt => ?_
  have hdl := hlt _ _ hd
  have hml := hlt _ _ hm
  refine ACalls.of_body tok Tryz.func35 rfl Tryz.ntmps35 (Nat.le_of_ble_eq_true rfl) (fun base => ?_)
  refine rg fun K hK => ?_
  refine st qP222 <| nt (hK _ _ ?_)
  clear hK K
  refine rg fun K hK => ?_
  refine st qP223 <| st qP223 <| st (by exact SD.s rfl rfl rfl (by exact AStepD.callf rfl en70 rfl (find_calls _ d m D a h))) <| st qP223 <| st qP220 <| st qP220 <| st qP43 <| st0 (by exact ⟨rfl, rfl, qK17⟩) <| st qP222 <| nt (hK _ _ ?_)
  clear hK K
  refine AW.seq_k (fun K1 hK1 => ?_)
  refine AW.block ?_
  refine rg fun K hK => ?_
  refine st qP223 <| st qK32 <| st qP222 <| nt (hK _ _ ?_)
  clear hK K
  refine AW.cond _ rfl (fun hc => ?_) (fun hc => ?_)
  · have hc : D.findE a ≠ 0 := by simpa using hc
    refine rg fun K hK => ?_
    refine st qP223 <| st qP222 <| nt (hK _ _ ?_)
    clear hK K
    refine AW.ret (RetQ.mk (.inr rfl) (retA_tmp rfl qP21 retA_nil) ⟨by rw [Dk.rename, if_pos hc]; rfl, by rw [Dk.rename, if_pos hc]; exact ⟨qP219, qP219⟩, Only.keep qP24⟩)
  have hc : ¬ D.findE a ≠ 0 := by simpa using hc
  refine rg fun K hK => ?_
  refine st qP223 <| st (by exact SD.s rfl rfl rfl (by exact AStepD.callf rfl en40 rfl (named_calls _ b hn.1 hn.2.1 hn.2.2))) <| st (by exact SD.s rfl rfl rfl (by first | exact AStepD.not rfl rfl | exact AStepD.neg rfl rfl (by first | exact IntWalk.i64_in _ (by omega) | exact IntWalk.i64_in _ (by simp only [Bool.or_eq_true, Bool.and_eq_true, Bool.or_eq_false_iff, Bool.and_eq_false_iff, Bool.not_eq_true', Bool.not_eq_false', decide_eq_true_eq, decide_eq_false_iff_not, Int.not_lt, Int.not_le, beq_iff_eq] at *; omega) | exact rfl))) <| st qP222 <| nt (hK _ _ ?_)
  clear hK K
  refine AW.cond _ rfl (fun hc0 => ?_) (fun hc0 => ?_)
  · cases hc0
  clear hc0
  refine rg fun K hK => ?_
  refine st qP223 <| ?_
  refine AL.call rfl rfl rfl (AStep.callf rfl en43 (step_calls _ d m D ⟨qP219, qP219⟩ hl)) ?_; rintro _ H2 ⟨rfl, h2, o2⟩
  refine st (by exact SD.s rfl rfl rfl (by first | exact AStepD.not rfl rfl | exact AStepD.neg rfl rfl (by first | exact IntWalk.i64_in _ (by omega) | exact IntWalk.i64_in _ (by simp only [Bool.or_eq_true, Bool.and_eq_true, Bool.or_eq_false_iff, Bool.and_eq_false_iff, Bool.not_eq_true', Bool.not_eq_false', decide_eq_true_eq, decide_eq_false_iff_not, Int.not_lt, Int.not_le, beq_iff_eq] at *; omega) | exact rfl))) <| st qP222 <| nt (hK _ _ ?_)
  clear hK K
  have ho : Only (both d m) H H2 := (Only.keep qP24).trans (o2.sub fun q _ e => .inl e)
  have hx : H2.get H.next = some (.cells 82 [vecA (D.findF a).b, .v (.bool (D.findF a).safe)]) := (o2.gt _ qX118 (by omega)).trans qK14
  have hnx := o2.nx
  simp only [za, zb] at hnx
  refine AW.cond _ rfl (fun hc2 => ?_) (fun hc2 => ?_)
  · have hc2 : D.step.down = true := by simpa using hc2
    refine rg fun K hK => ?_
    refine st qP222 <| nt (hK _ _ ?_)
    clear hK K
    refine AW.ret (RetQ.mk (.inr rfl) (retA_tmp rfl qP21 retA_nil) ⟨by rw [Dk.rename, if_neg hc, if_pos hc2]; rfl, by rw [Dk.rename, if_neg hc, if_pos hc2]; exact h2, ho⟩)
  have hc2 : D.step.down = false := by simpa using hc2
  have hd2 := h2.d
  have hm2 := h2.m
  have hs : D.rename a (str b) = (D.step.mv a (str b) (D.findF a), 0) := by rw [Dk.rename, if_neg hc, if_neg (by rw [hc2]; decide)]
  refine AW.skip ?_
  refine hK1 _ _ ?_; try clear hK1 K1
  refine rg fun K hK => ?_
  refine st qP223 <| st qK11 <| st qX21 <| st qX22 <| st qP223 <| st0 (by exact ⟨rfl, rfl, (by exact AStepD.kdelete (κ := ByteArray) tok a rfl rfl rfl rfl rfl rfl rfl qP219 (delK_tmap Fil.av D.step.fs a))⟩) <| nt (hK _ _ ?_)
  clear hK K
  refine AW.seq_k (fun K hK => ?_)
  apply AW.draw mixed [_, _, _, _, _, _, _] [6] [_, _] [(0, 0), (1, 0), (2, 0), (3, 0), (4, 0), (5, 0), (6, 0)] rfl rfl rfl qP33
  · refine ⟨?_, ?_, ?_, ?_, ?_, ?_, ?_⟩
    · refine Ob.mk _ [0] 0 rfl rfl (restr_cons qP21 restr_nil) rfl ?_
      simp only [List.getD_cons_zero, List.getD_cons_succ]
      exact GStep.plain rfl qP215
    · refine Ob.mk _ [32] 0 rfl rfl (restr_cons qP21 restr_nil) rfl ?_
      simp only [List.getD_cons_zero, List.getD_cons_succ]
      exact GStep.plain rfl qP35
    · refine Ob.mk _ [33] 0 rfl rfl (restr_cons qP21 restr_nil) rfl ?_
      simp only [List.getD_cons_zero, List.getD_cons_succ]
      exact GStep.plain rfl qP321
    · refine Ob.mk _ [34] 0 rfl rfl (restr_cons qP21 restr_nil) rfl ?_
      simp only [List.getD_cons_zero, List.getD_cons_succ]
      exact GStep.plain rfl qP34
    · refine Ob.mk _ [2] 0 rfl rfl (restr_cons qP21 restr_nil) rfl ?_
      simp only [List.getD_cons_zero, List.getD_cons_succ]
      exact GStep.plain rfl qP215
    · refine Ob.mk _ [7] 0 rfl rfl (restr_cons qP21 restr_nil) rfl ?_
      simp only [List.getD_cons_zero, List.getD_cons_succ]
      exact GStep.plain rfl (by exact AStepD.val (AStepD.load_agg tok rfl rfl rfl qP219 rfl (show _ = 2 from rfl) qX119 rfl) (y := Fil.av (D.findF a)) rfl)
    · refine Ob.mk _ [35, 36, 37] 1 rfl rfl (restr_cons qP21 (restr_cons qP21 (restr_cons qP21 restr_nil))) rfl ?_
      simp only [List.getD_cons_zero, List.getD_cons_succ]
      exact GStep.plain rfl (by exact AStepD.kmapUpdate (κ := ByteArray) (v := Fil.av (D.findF a)) tok (str b) rfl rfl rfl rfl rfl rfl rfl rfl qP219 (putK_tmap Fil.av (delK D.step.fs a) (str b) (D.findF a)))
  refine hK _ _ ?_; clear hK K
  refine AW.frame qP38 qP39 ?_
  refine rg fun K hK => ?_
  refine st qP222 <| nt (hK _ _ ?_)
  clear hK K
  refine AW.ret (RetQ.mk (.inr rfl) (retA_tmp rfl qP21 retA_nil) ⟨by rw [hs]; rfl, by rw [hs]; exact ⟨qP219, qP219⟩, (ho.set (.inl (.inr rfl))).set (.inl (.inr rfl))⟩)
end Go.Proofs.YtcomjodfkcnjhaaGreatDoor

/- Walks: a map's keys, collected and sorted; a crash. -/

namespace Go.Proofs.YtcomjodfkcnjhaaGreatDoor
open Go.Ax
open Cel (c)
set_option linter.unusedSimpArgs false
set_option linter.unusedVariables false
set_option maxRecDepth 20000
open Cel (c)

abbrev two (X m : Nat) (q : Nat) : Prop := q = X ∨ q = m
/-! ### Collected and sorted -/
def pick (ks : List (List UInt8)) (ds : List Nat) : List (List UInt8) := ds.map fun i => ks.getD i []
end Go.Proofs.YtcomjodfkcnjhaaGreatDoor

/- Walks: a crash. -/

namespace Go.Proofs.YtcomjodfkcnjhaaGreatDoor
open Go.Ax
open Cel (c)
set_option linter.unusedSimpArgs false
set_option linter.unusedVariables false
set_option maxRecDepth 20000
open Cel (c)

def Cut (f g : Fil) : Prop := g = f ∨ f.safe = false ∧ ∃ k, k ≤ f.b.length ∧ g = ⟨f.b.take k, true⟩
structure Crashed (D D' : Dk) (ns : List ByteArray) : Prop where
  keys : keysK D'.fs = keysK D.fs
  room : D'.room = D.room
  get : ∀ n f, getK D.fs n = some f → ∃ g, getK D'.fs n = some g ∧ Cut f g ∧ (n ∈ ns → g.safe = true)
theorem Crashed.refl (D : Dk) : Crashed D D [] := ⟨rfl, rfl, fun n f h => ⟨f, h, .inl rfl, by simp⟩⟩
theorem Crashed.next {D D' : Dk} {ns : List ByteArray} (h : Crashed D D' ns) {n : ByteArray} {f g : Fil} (hf : getK D'.fs n = some f) (hg : Cut f g) (hs : g.safe = true) : Crashed D (D'.put n g) (ns ++ [n]) := by
  have hm : n ∈ keysK D'.fs := by
    by_cases hx : n ∈ keysK D'.fs
    · exact hx
    · rw [getK_none.2 hx] at hf; cases hf
  refine ⟨by rw [Dk.put, keys_put, if_pos hm]; exact h.keys, h.room, fun x f0 hx => ?_⟩
  obtain ⟨g0, h1, h2, h3⟩ := h.get x f0 hx
  by_cases e : x = n
  · subst e
    rw [h1] at hf; cases hf
    refine ⟨g, getK_put_same _ _ _, ?_, fun _ => hs⟩
    rcases h2 with rfl | ⟨q1, k, q2, rfl⟩
    · exact hg
    · rcases hg with rfl | ⟨q3, _⟩
      · exact .inr ⟨q1, k, q2, rfl⟩
      · cases q3
  · refine ⟨g0, (getK_put_ne _ _ e).trans h1, h2, fun hx => ?_⟩
    rcases List.mem_append.1 hx with hx | hx
    · exact h3 hx
    · simp at hx; exact absurd hx e

end Go.Proofs.YtcomjodfkcnjhaaGreatDoor
