/- Walks: a disk's small functions. -/
import Derived.Test.YtcomjodfkcnjhaaGreatDoorCX1
import Derived.Test.YtcomjodfkcnjhaaGreatDoorCE4
set_option linter.unusedSimpArgs false
set_option linter.unusedVariables false
namespace Go.Proofs.YtcomjodfkcnjhaaGreatDoor
open Go.Ax
open Cel (c)
theorem qK11 {p : Prop} (h : p := by exact SD.s rfl rfl rfl qP35) : p := h
theorem qK12 {p : Prop} (h : p := by first | exact one_cells (by with_reducible assumption) | exact qP21) : p := h
theorem qK13 {p : Prop} (h : p := by first | exact Nat.zero_add 3 | exact (show _ + 3 = _ from qP36) | exact (show _ + 3 = _ + 3 from rfl) | exact rfl) : p := h
theorem qK14 {p : Prop} (h : p := by simp (disch := (first | omega | (exact Lst.lab_ne (by with_reducible assumption) qP29) | (exact Lst.lab_new (by with_reducible assumption) qP29) | (refine id ?_; simp only [za, zb, zc, zd]; done) | (simp only [za, zb, zc, zd]; omega))) only [z1, z2, z3, z4, z5, z6, z7, z8, z9, ne_eq]) : p := h
theorem qK15 {p : Prop} (h : p := by first | exact retA_agg rfl rfl rfl qP219 rfl (show _ = 2 from rfl) qX119 qX120 (retA_tmp rfl qP21 retA_nil) | exact retA_one rfl rfl rfl rfl qP219 rfl qP210 (retA_tmp rfl qP21 retA_nil)) : p := h
theorem qK16 {p : Prop} (h : p := by first | exact AStepD.load_cel_ip tok rfl rfl rfl rfl (show _ = 2 from rfl) rfl | exact AStepD.load_agg tok rfl rfl rfl qP219 rfl (show _ = 2 from rfl) qX119 qX120 | exact AStepD.load_agg_ip tok rfl rfl rfl rfl (show _ = 2 from rfl) qX119 qX120) : p := h
theorem qK17 {p : Prop} (h : p := by exact AStepD.store' tok rfl rfl qP219 qP21 qK12 qP213 rfl qP21 rfl qX119 qX122) : p := h
theorem qK18 {p : Prop} (h : p := by first | exact AStepD.fieldAddr' tok rfl rfl rfl rfl rfl rfl rfl qK13 | exact AStepD.fieldAddr_ip' tok rfl rfl rfl rfl rfl rfl rfl (show List.drop 3 _ = _ from rfl)) : p := h
theorem qK19 {p : Prop} (h : p := by exact SD.s rfl rfl rfl qK18) : p := h
set_option linter.unusedSimpArgs false
set_option linter.unusedVariables false
set_option maxRecDepth 20000
open Cel (c)

structure Fil where
  b : List UInt8
  safe : Bool
deriving DecidableEq
abbrev Fil.av (f : Fil) : AV := .agg [vecA f.b, .v (.bool f.safe)]
def noFil : Fil := ⟨[], false⟩
structure Dk where
  fs : List (ByteArray × Fil)
  room : Int
  left : Int
  down : Bool
abbrev Dk.es (D : Dk) : List (Value × AV) := kmap (tmap Fil.av D.fs)
abbrev Dk.cs (D : Dk) (m : Nat) : List AV := [.map m, .v (.int .i64 D.room), .v (.int .i64 D.left), .v (.bool D.down)]
structure DkAt (H : AHeap) (d m : Nat) (D : Dk) : Prop where
  d : H.get d = some (.cells 58 (D.cs m))
  m : H.get m = some (.map D.es)
theorem DkAt.ne {H : AHeap} {d m : Nat} {D : Dk} (h : DkAt H d m D) : d ≠ m := by
  rintro rfl
  have := h.d.symm.trans h.m
  simp at this
theorem DkAt.same {H H' : AHeap} {d m : Nat} {D : Dk} (h : DkAt H d m D) (h1 : H'.get d = H.get d) (h2 : H'.get m = H.get m) : DkAt H' d m D := ⟨h1.trans h.d, h2.trans h.m⟩
theorem noFil_zero : SubV (.v (.agg #[.slice none 0 0, .bool false])) (Fil.av noFil) := by
  intro ρ I u h
  cases h
  exact .agg (vs := [_, _]) rfl fun i a u ha hu => by
    match i with
    | 0 => simp at ha hu; subst ha; subst hu; exact .vec0
    | 1 => simp at ha hu; subst ha; subst hu; exact .v _
    | i + 2 => simp at ha

theorem noFil_built : SubV (.agg (AV.ofV (tt 82).zero)) (Fil.av noFil) := by
  intro ρ I u h
  cases h with
  | @agg _ vs hl hv =>
    refine .agg hl fun i a u ha hu => ?_
    match i with
    | 0 =>
      have h0 := hv 0 (.v (.slice none 0 0)) u rfl hu
      cases h0
      simp only [List.getElem?_cons_zero, Option.some.injEq] at ha
      subst ha; exact .vec0
    | 1 =>
      have h0 := hv 1 (.v (.bool false)) u rfl hu
      cases h0
      simp only [List.getElem?_cons_succ, List.getElem?_cons_zero, Option.some.injEq] at ha
      subst ha; exact .v _
    | i + 2 => simp at ha

theorem new_calls (H : AHeap) (room : Int) (h0 : 0 ≤ room) (h1 : room ≤ 65536) : ACalls Tryz.prog 10 [.v (.int .i64 room)] H (fun r H' => r = .ptr (H.next + 1) 0 ∧ DkAt H' (H.next + 1) H.next ⟨[], room, -1, false⟩ ∧ Keep H H' ∧ H'.next = H.next + 2) := by
  refine ACalls.of_body tok Tryz.func10 rfl Tryz.ntmps10 (Nat.le_of_ble_eq_true rfl) (fun base => ?_)
  refine rg fun K hK => ?_
  refine st qP222 <| nt (hK _ _ ?_)
  clear hK K
  refine AW.seq_k (fun K1 hK1 => ?_)
  refine rg fun K hK => ?_
  refine st qP223 <| st (by exact SD.s rfl rfl rfl (by exact AStepD.bool (AStepD.lss rfl rfl rfl) (c := false) (by simp; omega))) <| st qP223 <| st (GW.p (l := [0]) qP318) <| st (GW.p (l := [6]) (by first | exact GW.yes rfl rfl rfl rfl rfl rfl rfl (by exact AStepD.bool (AStepD.gtr rfl rfl rfl) (c := false) (by simp; omega)) | exact GW.no rfl rfl rfl rfl rfl rfl rfl | exact GW.none rfl rfl rfl rfl rfl | exact GW.may rfl rfl rfl rfl rfl rfl (fun hb => by (repeat (first | apply UW.yes rfl (gpf hb) | apply UW.no)); exact UW.nil (by exact AStepD.bool (AStepD.gtr rfl rfl rfl) (c := false) (by simp; omega))) | exact GW.may2 rfl rfl rfl rfl rfl rfl (fun _ hb => by (repeat (first | apply UW.yes rfl (gpf hb) | apply UW.no)); exact UW.nil (by exact AStepD.bool (AStepD.gtr rfl rfl rfl) (c := false) (by simp; omega))))) <| st qP312 <| nt (hK _ _ ?_)
  clear hK K
  refine AW.cond _ rfl (fun hc => ?_) (fun hc => ?_)
  · cases hc
  refine AW.skip ?_
  refine hK1 _ _ ?_; try clear hK1 K1
  refine rg fun K hK => ?_
  refine st (by exact SD.s rfl rfl rfl (by exact AStepD.makeMap rfl)) <| st qP223 <| st (by exact SD.s rfl rfl rfl (by exact AStepD.val (AStepD.build tok rfl rfl rfl (by decide) rfl (show ∀ p ∈ [((0 : Nat), AV.map H.next), (1, .v (.int .i64 room)), (2, .v (.int .i64 (-1)))], ∀ x ∈ p.2.cells, x.one = true from by simp [AV.cells, AV.one, Value.oneCell'])) (y := .agg (Dk.cs ⟨[], room, -1, false⟩ H.next)) rfl)) <| st (by exact SD.s rfl rfl rfl (by first | exact AStepD.box1 rfl qP21 (by first | exact rfl | with_reducible assumption | exact Lst.one (by assumption)) | exact AStepD.box rfl qP21 qP213)) <| st qP222 <| nt (hK _ _ ?_)
  clear hK K
  refine AW.ret (RetQ.mk (.inr rfl) (retA_tmp rfl qP21 retA_nil) ⟨rfl, ⟨qP219, qP219⟩, qP24, rfl⟩)

def Dk.step (D : Dk) : Dk := if 0 < D.left then { D with left := D.left - 1 } else if D.left = 0 then { D with down := true } else D
theorem Dk.step_fs (D : Dk) : D.step.fs = D.fs := by unfold Dk.step; split; rfl; split <;> rfl
theorem Dk.step_room (D : Dk) : D.step.room = D.room := by unfold Dk.step; split; rfl; split <;> rfl
theorem step_calls (H : AHeap) (d m : Nat) (D : Dk) (h : DkAt H d m D) (hl : D.left ≤ 9223372036854775807) : ACalls Tryz.prog 43 [.ptr d 0] H (fun r H' => r = .v (.bool (!D.step.down)) ∧ DkAt H' d m D.step ∧ Only (· = d) H H') := by
  have hd := h.d
  have hm := h.m
  have hne := h.ne
  refine ACalls.of_body tok Tryz.func43 rfl Tryz.ntmps43 (Nat.le_of_ble_eq_true rfl) (fun base => ?_)
  refine rg fun K hK => ?_
  refine st qP222 <| nt (hK _ _ ?_)
  clear hK K
  refine AW.seq_k (fun K1 hK1 => ?_)
  refine AW.block ?_
  refine rg fun K hK => ?_
  refine st qP223 <| st qK11 <| st qX214 <| st qX22 <| st (by exact SD.s rfl rfl rfl qX117) <| st qP222 <| nt (hK _ _ ?_)
  clear hK K
  refine AW.cond _ rfl (fun hc => ?_) (fun hc => ?_)
  · have hc := of_decide_eq_true hc
    have hs : D.step = { D with left := D.left - 1 } := by rw [Dk.step, if_pos hc]
    refine AW.region ?_
    refine st qP223 <| st qK11 <| st qX214 <| st qX22 <| st (by exact SD.s rfl rfl rfl (by exact AStepD.sub rfl rfl rfl (by first | exact IntWalk.i64_in _ (by omega) | exact IntWalk.i64_in _ (by simp only [Bool.or_eq_true, Bool.and_eq_true, Bool.or_eq_false_iff, Bool.and_eq_false_iff, Bool.not_eq_true', Bool.not_eq_false', decide_eq_true_eq, decide_eq_false_iff_not, Int.not_lt, Int.not_le, beq_iff_eq] at *; omega) | exact rfl))) <| st qK11 <| st qX214 <| st0 (by exact ⟨rfl, rfl, qK17⟩) <| AL.nil ?_
    refine hK1 _ _ ?_; try clear hK1 K1
    refine rg fun K hK => ?_
    refine st qP223 <| st qK11 <| st qK19 <| st qX22 <| st (by exact SD.s rfl rfl rfl (by first | exact AStepD.not rfl rfl | exact AStepD.neg rfl rfl (by first | exact IntWalk.i64_in _ (by omega) | exact IntWalk.i64_in _ (by simp only [Bool.or_eq_true, Bool.and_eq_true, Bool.or_eq_false_iff, Bool.and_eq_false_iff, Bool.not_eq_true', Bool.not_eq_false', decide_eq_true_eq, decide_eq_false_iff_not, Int.not_lt, Int.not_le, beq_iff_eq] at *; omega) | exact rfl))) <| st qP222 <| nt (hK _ _ ?_)
    clear hK K
    refine AW.ret (RetQ.mk (.inr rfl) (retA_tmp rfl qP21 retA_nil) ⟨by rw [hs]; rfl, ⟨by rw [hs]; exact qP219, by rw [hs]; exact qP219⟩, (Only.refl _ _).set (.inl rfl)⟩)
  have hc := of_decide_eq_false hc
  refine rg fun K hK => ?_
  refine st qP223 <| st qK11 <| st qX214 <| st qX22 <| st (by exact SD.s rfl rfl rfl qP31) <| st qP222 <| nt (hK _ _ ?_)
  clear hK K
  refine AW.cond _ rfl (fun hc2 => ?_) (fun hc2 => ?_)
  · have hc2 := of_decide_eq_true hc2
    have hs : D.step = { D with down := true } := by rw [Dk.step, if_neg hc, if_pos hc2]
    refine AW.region ?_
    refine st qP223 <| st qK11 <| st qK19 <| st0 (by exact ⟨rfl, rfl, qK17⟩) <| AL.nil ?_
    refine hK1 _ _ ?_; try clear hK1 K1
    refine rg fun K hK => ?_
    refine st qP223 <| st qK11 <| st qK19 <| st qX22 <| st (by exact SD.s rfl rfl rfl (by first | exact AStepD.not rfl rfl | exact AStepD.neg rfl rfl (by first | exact IntWalk.i64_in _ (by omega) | exact IntWalk.i64_in _ (by simp only [Bool.or_eq_true, Bool.and_eq_true, Bool.or_eq_false_iff, Bool.and_eq_false_iff, Bool.not_eq_true', Bool.not_eq_false', decide_eq_true_eq, decide_eq_false_iff_not, Int.not_lt, Int.not_le, beq_iff_eq] at *; omega) | exact rfl))) <| st qP222 <| nt (hK _ _ ?_)
    clear hK K
    refine AW.ret (RetQ.mk (.inr rfl) (retA_tmp rfl qP21 retA_nil) ⟨by rw [hs]; rfl, ⟨by rw [hs]; exact qP219, by rw [hs]; exact qP219⟩, (Only.refl _ _).set (.inl rfl)⟩)
  have hc2 := of_decide_eq_false hc2
  have hs : D.step = D := by rw [Dk.step, if_neg hc, if_neg hc2]
  refine AW.skip ?_
  refine hK1 _ _ ?_; try clear hK1 K1
  refine rg fun K hK => ?_
  refine st qP223 <| st qK11 <| st qK19 <| st qX22 <| st (by exact SD.s rfl rfl rfl (by first | exact AStepD.not rfl rfl | exact AStepD.neg rfl rfl (by first | exact IntWalk.i64_in _ (by omega) | exact IntWalk.i64_in _ (by simp only [Bool.or_eq_true, Bool.and_eq_true, Bool.or_eq_false_iff, Bool.and_eq_false_iff, Bool.not_eq_true', Bool.not_eq_false', decide_eq_true_eq, decide_eq_false_iff_not, Int.not_lt, Int.not_le, beq_iff_eq] at *; omega) | exact rfl))) <| st qP222 <| nt (hK _ _ ?_)
  clear hK K
  refine AW.ret (RetQ.mk (.inr rfl) (retA_tmp rfl qP21 retA_nil) ⟨by rw [hs]; rfl, by rw [hs]; exact h, Only.refl _ _⟩)

def Dk.got (D : Dk) (n : ByteArray) : Fil := (getK D.fs n).getD noFil
def Dk.has (D : Dk) (n : ByteArray) : Bool := (getK D.fs n).isSome
def Dk.findE (D : Dk) (n : ByteArray) : Int := if D.down then 50 else if D.has n then 0 else 52
def Dk.findF (D : Dk) (n : ByteArray) : Fil := if D.down then noFil else D.got n
theorem look_file {o : Oper} {T : Fr} {H : AHeap} {d m : Nat} {D : Dk} {x y : Operand} {n : ByteArray} (h : DkAt H d m D) (ho : o.op = .lookup 56 x y true) (hx : aev T x = .map m) (hy : aev T y = .v (.string n)) : AStepD Tryz.prog o T H (.tup [Fil.av (D.got n), .v (.bool (D.has n))]) H := by
  refine AStepD.val (AStepD.klookup (κ := ByteArray) tok n ho hx hy rfl rfl rfl rfl rfl h.m (getK_tmap _ _ _) noFil_zero) ?_
  rw [Dk.got, Dk.has]
  cases getK D.fs n <;> rfl
theorem look_file1 {o : Oper} {T : Fr} {H : AHeap} {d m : Nat} {D : Dk} {x y : Operand} {n : ByteArray} (h : DkAt H d m D) (ho : o.op = .lookup 56 x y false) (hx : aev T x = .map m) (hy : aev T y = .v (.string n)) : AStepD Tryz.prog o T H (Fil.av (D.got n)) H := by
  refine AStepD.val (AStepD.klookup1 (κ := ByteArray) tok n ho hx hy rfl rfl rfl rfl rfl h.m (getK_tmap _ _ _) noFil_zero) ?_
  rw [Dk.got]
  cases getK D.fs n <;> rfl
theorem find_calls (H : AHeap) (d m : Nat) (D : Dk) (n : ByteArray) (h : DkAt H d m D) : ACalls Tryz.prog 70 [.ptr d 0, .v (.string n)] H (fun r H' => r = .tup [Fil.av (D.findF n), .v (.int .i64 (D.findE n))] ∧ H' = H) := by
  have hd := h.d
  have hm := h.m
  have hne := h.ne
  refine ACalls.lts fun hlt => ?_
  have hdl := hlt _ _ hd
  have hml := hlt _ _ hm
  refine ACalls.quiet_keep ?_ (.tup fun z hz => ?_)
  · refine ACalls.of_body tok Tryz.func70 rfl Tryz.ntmps70 (Nat.le_of_ble_eq_true rfl) (fun base => ?_)
    refine rg fun K hK => ?_
    refine st qP43 <| st qP222 <| nt (hK _ _ ?_)
    clear hK K
    refine rg fun K hK => ?_
    refine st qP223 <| st qK11 <| st qX21 <| st qX22 <| st qP223 <| st (by exact SD.s rfl rfl rfl (by exact look_file (d := d) (h.same qK14 qK14) rfl rfl rfl)) <| st qP223 <| st qP220 <| st qP220 <| st qP43 <| st0 (by exact ⟨rfl, rfl, qK17⟩) <| st qP222 <| nt (hK _ _ ?_)
    clear hK K
    refine AW.seq_k (fun K1 hK1 => ?_)
    refine AW.block ?_
    refine rg fun K hK => ?_
    refine st qP223 <| st qK11 <| st qK19 <| st qX22 <| st qP222 <| nt (hK _ _ ?_)
    clear hK K
    refine AW.cond _ rfl (fun hc => ?_) (fun hc => ?_)
    · have hc : D.down = true := hc
      refine rg fun K hK => ?_
      refine st (by exact SD.s rfl rfl rfl (by exact AStepD.weak (AStepD.build tok rfl rfl rfl (by decide) rfl qP213) noFil_built)) <| st0 (by exact ⟨rfl, rfl, qK17⟩) <| st qP222 <| nt (hK _ _ ?_)
      clear hK K
      refine AW.ret (RetQ.mk (.inr rfl) qK15 ⟨by rw [Dk.findF, Dk.findE, if_pos hc, if_pos hc]; rfl, qP24⟩)
    · have hc : D.down = false := hc
      refine rg fun K hK => ?_
      refine st qP223 <| st (by exact SD.s rfl rfl rfl (by first | exact AStepD.not rfl rfl | exact AStepD.neg rfl rfl (by first | exact IntWalk.i64_in _ (by omega) | exact IntWalk.i64_in _ (by simp only [Bool.or_eq_true, Bool.and_eq_true, Bool.or_eq_false_iff, Bool.and_eq_false_iff, Bool.not_eq_true', Bool.not_eq_false', decide_eq_true_eq, decide_eq_false_iff_not, Int.not_lt, Int.not_le, beq_iff_eq] at *; omega) | exact rfl))) <| st qP222 <| nt (hK _ _ ?_)
      clear hK K
      refine AW.cond _ rfl (fun hc2 => ?_) (fun hc2 => ?_)
      · have hc2 : D.has n = false := by simpa using hc2
        have hg : D.got n = noFil := by
          rw [Dk.has] at hc2; rw [Dk.got]
          cases hk : getK D.fs n with
          | none => rfl
          | some f => rw [hk] at hc2; cases hc2
        refine rg fun K hK => ?_
        refine st (by exact SD.s rfl rfl rfl (by exact AStepD.weak (AStepD.build tok rfl rfl rfl (by decide) rfl qP213) noFil_built)) <| st0 (by exact ⟨rfl, rfl, qK17⟩) <| st qP222 <| nt (hK _ _ ?_)
        clear hK K
        refine AW.ret (RetQ.mk (.inr rfl) qK15 ⟨by rw [Dk.findF, Dk.findE, hc, hc2, hg]; rfl, qP24⟩)
      · have hc2 : D.has n = true := by simpa using hc2
        refine AW.skip ?_
        refine hK1 _ _ ?_; try clear hK1 K1
        refine rg fun K hK => ?_
        refine st (by exact SD.s rfl rfl rfl qK16) <| st0 (by exact ⟨rfl, rfl, qK17⟩) <| st qP222 <| nt (hK _ _ ?_)
        clear hK K
        refine AW.ret (RetQ.mk (.inr rfl) qK15 ⟨by rw [Dk.findF, Dk.findE, hc, hc2]; rfl, qP24⟩)
  · simp only [List.mem_cons, List.not_mem_nil, or_false] at hz
    rcases hz with rfl | rfl
    · exact .agg fun z hz => by
        simp only [List.mem_cons, List.not_mem_nil, or_false] at hz
        rcases hz with rfl | rfl
        · exact vecA_plain _
        · exact .v _
    · exact .v _
end Go.Proofs.YtcomjodfkcnjhaaGreatDoor

/- Walks: names, how many bytes other files have, copies. -/

namespace Go.Proofs.YtcomjodfkcnjhaaGreatDoor
open Go.Ax
open Cel (c)
theorem qK21 {p : Prop} (h : p := by first | exact GW.yes rfl rfl rfl rfl rfl rfl rfl qP216 | exact GW.no rfl rfl rfl rfl rfl rfl rfl | exact GW.none rfl rfl rfl rfl rfl | exact GW.may rfl rfl rfl rfl rfl rfl (fun hb => by (repeat (first | apply UW.yes rfl (gpf hb) | apply UW.no)); exact UW.nil qP216) | exact GW.may2 rfl rfl rfl rfl rfl rfl (fun _ hb => by (repeat (first | apply UW.yes rfl (gpf hb) | apply UW.no)); exact UW.nil qP216)) : p := h
set_option linter.unusedSimpArgs false
set_option linter.unusedVariables false
set_option maxRecDepth 20000
open Cel (c)

theorem small_calls (H : AHeap) (b : UInt8) (h1 : 97 ≤ b.toNat) (h2 : b.toNat ≤ 122) : ACalls Tryz.prog 72 [.v (.int .i32 (b.toNat : Nat))] H (fun r H' => r = .v (.bool false) ∧ H' = H) := by
  refine ACalls.quiet_keep ?_ (.v _)
  refine ACalls.of_body tok Tryz.func72 rfl Tryz.ntmps72 (Nat.le_of_ble_eq_true rfl) (fun base => ?_)
  refine rg fun K hK => ?_
  refine st qP222 <| nt (hK _ _ ?_)
  clear hK K
  refine rg fun K hK => ?_
  refine st qP223 <| st (by exact SD.s rfl rfl rfl (by exact AStepD.bool (AStepD.lss rfl rfl rfl) (c := false) (by simp; omega))) <| st qP223 <| st (GW.p (l := [0]) qP318) <| st (GW.p (l := [6]) (by first | exact GW.yes rfl rfl rfl rfl rfl rfl rfl (by exact AStepD.bool (AStepD.gtr rfl rfl rfl) (c := false) (by simp; omega)) | exact GW.no rfl rfl rfl rfl rfl rfl rfl | exact GW.none rfl rfl rfl rfl rfl | exact GW.may rfl rfl rfl rfl rfl rfl (fun hb => by (repeat (first | apply UW.yes rfl (gpf hb) | apply UW.no)); exact UW.nil (by exact AStepD.bool (AStepD.gtr rfl rfl rfl) (c := false) (by simp; omega))) | exact GW.may2 rfl rfl rfl rfl rfl rfl (fun _ hb => by (repeat (first | apply UW.yes rfl (gpf hb) | apply UW.no)); exact UW.nil (by exact AStepD.bool (AStepD.gtr rfl rfl rfl) (c := false) (by simp; omega))))) <| st qP312 <| st qP222 <| nt (hK _ _ ?_)
  clear hK K
  refine AW.ret (RetQ.mk (.inr rfl) (retA_tmp rfl qP21 retA_nil) ⟨rfl, qP24⟩)

def Low (l : List UInt8) : Prop := ∀ b ∈ l, 97 ≤ b.toNat ∧ b.toNat ≤ 122
theorem idxs_calls (H : AHeap) (l : List UInt8) (hl : Low l) (hlen : l.length ≤ 1000) : ACalls Tryz.prog 116 [strA l, .func (.func 72) [], .v (.bool true)] H (fun r H' => r = .v (.int .i64 (-1)) ∧ H' = H) := by
  refine ACalls.quiet_keep ?_ (.v _)
  refine ACalls.of_body tok Tryz.func116 rfl Tryz.ntmps116 (Nat.le_of_ble_eq_true rfl) (fun base => ?_)
  refine rg fun K hK => ?_
  refine st qP222 <| nt (hK _ _ ?_)
  clear hK K
  refine AW.seq_k (fun K1 hK1 => ?_)
  refine rg fun K hK => ?_
  refine st qP223 <| st (by exact SD.s rfl rfl rfl (by exact AStepD.srange tok rfl rfl rfl rfl)) <| nt (hK _ _ ?_)
  clear hK K
  refine AW.block ?_
  refine AW.loop_at (ι := Nat) (fun i => [(10, .ptr H.next 0), (1, .func (.func 72) []), (2, .v (.bool true))])
    (fun i H' => i ≤ l.length ∧ H'.get H.next = some (.obj (.stringIter (str l) i)) ∧ Keep H H' ∧ H.next < H'.next) (fun i => l.length - i) 0 qP217 ⟨Nat.zero_le _, qP219, qP24, Nat.lt_succ_self _⟩ ?_
  rintro i H2 ⟨hi, hg, hk, hn⟩
  by_cases hil : i < l.length
  · have hb := hl l[i] (List.getElem_mem hil)
    refine rg fun K hK => ?_
    refine st (by exact SD.s rfl rfl rfl (by exact AStepD.snext (b := l[i]) rfl rfl hg (by rw [str_list, List.getElem?_eq_getElem hil]) (by omega))) <| st qP220 <| nt (hK _ _ ?_)
    clear hK K
    refine AW.seq_k (fun K2 hK2 => ?_)
    refine AW.cond _ rfl (fun hc => ?_) (fun hc => ?_)
    · refine AW.skip ?_
      refine hK2 _ _ ?_; try clear hK2 K2
      refine AW.block ?_
      refine rg fun K hK => ?_
      refine st qP220 <| st qP220 <| st qP222 <| st qP222 <| nt (hK _ _ ?_)
      clear hK K
      refine rg fun K hK => ?_
      refine st qP223 <| st qP223 <| st (by exact SD.s rfl rfl rfl (by exact AStepD.callv rfl rfl en72 rfl (small_calls _ l[i] hb.1 hb.2))) <| st qP223 <| st (by exact SD.s rfl rfl rfl qP31) <| nt (hK _ _ ?_)
      clear hK K
      refine AW.cond _ rfl (fun hc => ?_) (fun hc => ?_)
      · cases hc
      refine AW.skip ?_
      refine ⟨i + 1, by omega, qP217, hil, qP219, (hk.set (Nat.le_refl _)), hn⟩
    · cases hc
  · refine rg fun K hK => ?_
    refine st (by exact SD.s rfl rfl rfl (by exact AStepD.snext_end rfl rfl hg (by rw [str_size]; omega))) <| st qP220 <| nt (hK _ _ ?_)
    clear hK K
    refine AW.seq_k (fun K2 hK2 => ?_)
    refine AW.cond _ rfl (fun hc => ?_) (fun hc => ?_)
    · cases hc
    refine AW.exit ?_
    refine hK1 _ _ ?_; try clear hK1 K1
    refine rg fun K hK => ?_
    refine st qP222 <| nt (hK _ _ ?_)
    clear hK K
    refine AW.ret (RetQ.mk (.inr rfl) (retA_tmp rfl qP21 retA_nil) ⟨rfl, hk⟩)
theorem idxf_calls (H : AHeap) (l : List UInt8) (hl : Low l) (hlen : l.length ≤ 1000) : ACalls Tryz.prog 97 [strA l, .func (.func 72) []] H (fun r H' => r = .v (.int .i64 (-1)) ∧ H' = H) := by
  refine ACalls.quiet_keep ?_ (.v _)
  refine ACalls.of_body tok Tryz.func97 rfl Tryz.ntmps97 (Nat.le_of_ble_eq_true rfl) (fun base => ?_)
  refine rg fun K hK => ?_
  refine st qP222 <| nt (hK _ _ ?_)
  clear hK K
  refine rg fun K hK => ?_
  refine st qP223 <| st qP223 <| st (by exact SD.s rfl rfl rfl (by exact AStepD.callf rfl en116 rfl (idxs_calls _ l hl hlen))) <| st qP222 <| nt (hK _ _ ?_)
  clear hK K
  refine AW.ret (RetQ.mk (.inr rfl) (retA_tmp rfl qP21 retA_nil) ⟨rfl, qP24⟩)
theorem conf_calls (H : AHeap) (l : List UInt8) (hl : Low l) (hlen : l.length ≤ 1000) : ACalls Tryz.prog 71 [strA l, .func (.func 72) []] H (fun r H' => r = .v (.bool false) ∧ H' = H) := by
  refine ACalls.quiet_keep ?_ (.v _)
  refine ACalls.of_body tok Tryz.func71 rfl Tryz.ntmps71 (Nat.le_of_ble_eq_true rfl) (fun base => ?_)
  refine rg fun K hK => ?_
  refine st qP222 <| nt (hK _ _ ?_)
  clear hK K
  refine rg fun K hK => ?_
  refine st qP223 <| st qP223 <| st (by exact SD.s rfl rfl rfl (by exact AStepD.callf rfl en97 rfl (idxf_calls _ l hl hlen))) <| st qX130 <| st qP222 <| nt (hK _ _ ?_)
  clear hK K
  refine AW.ret (RetQ.mk (.inr rfl) (retA_tmp rfl qP21 retA_nil) ⟨rfl, qP24⟩)
theorem named_calls (H : AHeap) (l : List UInt8) (hl : Low l) (h0 : l ≠ []) (hlen : l.length ≤ 16) : ACalls Tryz.prog 40 [strA l] H (fun r H' => r = .v (.bool true) ∧ H' = H) := by
  refine ACalls.quiet_keep ?_ (.v _)
  have hsz := str_size l
  refine ACalls.of_body tok Tryz.func40 rfl Tryz.ntmps40 (Nat.le_of_ble_eq_true rfl) (fun base => ?_)
  refine rg fun K hK => ?_
  refine st qP222 <| nt (hK _ _ ?_)
  clear hK K
  refine rg fun K hK => ?_
  refine st qP223 <| st (by exact SD.s rfl rfl rfl (by exact AStepD.bool (AStepD.str_neq rfl rfl rfl) (c := true) (by simpa [str_list] using h0))) <| st qP223 <| st (GW.p (l := [0]) qP318) <| st (GW.p (l := [6]) qK21) <| st (GW.p (l := [7]) (by first | exact GW.yes rfl rfl rfl rfl rfl rfl rfl (by exact AStepD.bool (AStepD.leq rfl rfl rfl) (c := true) (by rw [hsz]; simp; omega)) | exact GW.no rfl rfl rfl rfl rfl rfl rfl | exact GW.none rfl rfl rfl rfl rfl | exact GW.may rfl rfl rfl rfl rfl rfl (fun hb => by (repeat (first | apply UW.yes rfl (gpf hb) | apply UW.no)); exact UW.nil (by exact AStepD.bool (AStepD.leq rfl rfl rfl) (c := true) (by rw [hsz]; simp; omega))) | exact GW.may2 rfl rfl rfl rfl rfl rfl (fun _ hb => by (repeat (first | apply UW.yes rfl (gpf hb) | apply UW.no)); exact UW.nil (by exact AStepD.bool (AStepD.leq rfl rfl rfl) (c := true) (by rw [hsz]; simp; omega))))) <| st qP312 <| st qP223 <| st (GW.p (l := [0]) qP318) <| st (GW.p (l := [11]) (by first | exact GW.yes rfl rfl rfl rfl rfl rfl rfl (by exact AStepD.callf rfl en71 rfl (conf_calls _ l hl (by omega))) | exact GW.no rfl rfl rfl rfl rfl rfl rfl | exact GW.none rfl rfl rfl rfl rfl | exact GW.may rfl rfl rfl rfl rfl rfl (fun hb => by (repeat (first | apply UW.yes rfl (gpf hb) | apply UW.no)); exact UW.nil (by exact AStepD.callf rfl en71 rfl (conf_calls _ l hl (by omega)))) | exact GW.may2 rfl rfl rfl rfl rfl rfl (fun _ hb => by (repeat (first | apply UW.yes rfl (gpf hb) | apply UW.no)); exact UW.nil (by exact AStepD.callf rfl en71 rfl (conf_calls _ l hl (by omega)))))) <| st (GW.p (l := [12]) (by first | exact GW.yes rfl rfl rfl rfl rfl rfl rfl (by first | exact AStepD.not rfl rfl | exact AStepD.neg rfl rfl (by first | exact IntWalk.i64_in _ (by omega) | exact IntWalk.i64_in _ (by simp only [Bool.or_eq_true, Bool.and_eq_true, Bool.or_eq_false_iff, Bool.and_eq_false_iff, Bool.not_eq_true', Bool.not_eq_false', decide_eq_true_eq, decide_eq_false_iff_not, Int.not_lt, Int.not_le, beq_iff_eq] at *; omega) | exact rfl)) | exact GW.no rfl rfl rfl rfl rfl rfl rfl | exact GW.none rfl rfl rfl rfl rfl | exact GW.may rfl rfl rfl rfl rfl rfl (fun hb => by (repeat (first | apply UW.yes rfl (gpf hb) | apply UW.no)); exact UW.nil (by first | exact AStepD.not rfl rfl | exact AStepD.neg rfl rfl (by first | exact IntWalk.i64_in _ (by omega) | exact IntWalk.i64_in _ (by simp only [Bool.or_eq_true, Bool.and_eq_true, Bool.or_eq_false_iff, Bool.and_eq_false_iff, Bool.not_eq_true', Bool.not_eq_false', decide_eq_true_eq, decide_eq_false_iff_not, Int.not_lt, Int.not_le, beq_iff_eq] at *; omega) | exact rfl))) | exact GW.may2 rfl rfl rfl rfl rfl rfl (fun _ hb => by (repeat (first | apply UW.yes rfl (gpf hb) | apply UW.no)); exact UW.nil (by first | exact AStepD.not rfl rfl | exact AStepD.neg rfl rfl (by first | exact IntWalk.i64_in _ (by omega) | exact IntWalk.i64_in _ (by simp only [Bool.or_eq_true, Bool.and_eq_true, Bool.or_eq_false_iff, Bool.and_eq_false_iff, Bool.not_eq_true', Bool.not_eq_false', decide_eq_true_eq, decide_eq_false_iff_not, Int.not_lt, Int.not_le, beq_iff_eq] at *; omega) | exact rfl))))) <| st qP312 <| st qP222 <| nt (hK _ _ ?_)
  clear hK K
  refine AW.ret (RetQ.mk (.inr rfl) (retA_tmp rfl qP21 retA_nil) ⟨rfl, qP24⟩)

/-! ### How many bytes other files have -/
def sizeO (n : ByteArray) (p : ByteArray × Fil) : Nat := if p.1 = n then 0 else p.2.b.length
def Dk.others (D : Dk) (n : ByteArray) : Nat := (D.fs.map (sizeO n)).foldl (· + ·) 0
theorem foldl_perm {l m : List Nat} (h : l.Perm m) : ∀ a, l.foldl (· + ·) a = m.foldl (· + ·) a := by
  induction h with
  | nil => intro a; rfl
  | cons x _ ih => intro a; exact ih _
  | swap x y l => intro a; simp only [List.foldl_cons]; rw [show a + y + x = a + x + y by omega]
  | trans _ _ h1 h2 => intro a; rw [h1, h2]
theorem foldl_add (l : List Nat) : ∀ a, l.foldl (· + ·) a = a + l.foldl (· + ·) 0 := by
  induction l with
  | nil => intro a; simp
  | cons x r ih => intro a; rw [List.foldl_cons, List.foldl_cons, ih, ih (0 + x)]; omega
def doneO (D : Dk) (n : ByteArray) (done : List Nat) : Nat := (done.map fun i => (D.fs[i]?).elim 0 (sizeO n)).foldl (· + ·) 0
theorem doneO_all (D : Dk) (n : ByteArray) {done : List Nat} (h : done.Perm (List.range D.fs.length)) : doneO D n done = D.others n := by
  rw [doneO, Dk.others, foldl_perm (h.map _)]
  congr 1
  refine List.ext_getElem (by simp) fun i h1 h2 => ?_
  simp only [List.length_map, List.length_range] at h1
  simp [h1]
theorem doneO_next (D : Dk) (n : ByteArray) (done : List Nat) (i : Nat) (p : ByteArray × Fil) (h : D.fs[i]? = some p) : doneO D n (done ++ [i]) = doneO D n done + sizeO n p := by
  simp only [doneO, List.map_append, List.map_cons, List.map_nil, List.foldl_append, List.foldl_cons, List.foldl_nil, h, Option.elim]
def Dk.Ok (D : Dk) : Prop := D.fs.length ≤ 2 ∧ ∀ p ∈ D.fs, p.2.b.length ≤ 65536
theorem sizeO_le {D : Dk} (h : D.Ok) (n : ByteArray) {i : Nat} {p : ByteArray × Fil} (hp : D.fs[i]? = some p) : sizeO n p ≤ 65536 := by
  unfold sizeO; split
  · exact Nat.zero_le _
  · exact h.2 p (List.mem_of_getElem? hp)
theorem doneO_le {D : Dk} (h : D.Ok) (n : ByteArray) : ∀ (done : List Nat), doneO D n done ≤ done.length * 65536 := by
  intro done
  induction done with
  | nil => simp [doneO]
  | cons i r ih =>
    simp only [doneO, List.map_cons, List.foldl_cons] at ih ⊢
    rw [foldl_add, Nat.zero_add, List.length_cons]
    have : (D.fs[i]?).elim 0 (sizeO n) ≤ 65536 := by
      cases hp : D.fs[i]? with
      | none => simp
      | some p => exact sizeO_le h n hp
    omega
theorem es_get {D : Dk} {i : Nat} {e : Value × AV} (h : D.es[i]? = some e) : ∃ p, D.fs[i]? = some p ∧ e = (.string p.1, Fil.av p.2) := by
  simp only [Dk.es, kmap, tmap, List.map_map, List.getElem?_map, Option.map_eq_some_iff] at h
  obtain ⟨p, hp, rfl⟩ := h
  exact ⟨p, hp, rfl⟩
theorem es_len (D : Dk) : D.es.length = D.fs.length := by simp [Dk.es, kmap, tmap]

theorem others_calls (H : AHeap) (d m : Nat) (D : Dk) (n : ByteArray) (h : DkAt H d m D) (hok : D.Ok) : ACalls Tryz.prog 41 [.ptr d 0, .v (.string n)] H (fun r H' => r = .v (.int .i64 (D.others n : Nat)) ∧ H' = H) := by
  have hd := h.d
  have hm := h.m
  have hne := h.ne
  refine ACalls.lts fun hlt => ?_
  have hdl := hlt _ _ hd
  have hml := hlt _ _ hm
  refine ACalls.quiet_keep ?_ (.v _)
  refine ACalls.of_body tok Tryz.func41 rfl Tryz.ntmps41 (Nat.le_of_ble_eq_true rfl) (fun base => ?_)
  refine rg fun K hK => ?_
  refine st qP222 <| nt (hK _ _ ?_)
  clear hK K
  refine rg fun K hK => ?_
  refine st qP222 <| nt (hK _ _ ?_)
  clear hK K
  refine AW.seq_k (fun K1 hK1 => ?_)
  refine rg fun K hK => ?_
  refine st qP223 <| st qK11 <| st qX21 <| st qX22 <| ?_
  refine AL.call rfl rfl rfl (AStep.rng tok rfl rfl rfl rfl hm hml) ?_; rintro _ H1 ⟨rfl, hr, hk1, hn1⟩
  refine nt (hK _ _ ?_)
  clear hK K
  refine AW.block ?_
  refine AW.loop_at (ι := List Nat) (fun done => [(5, .v (.int .i64 (doneO D n done : Nat))), (12, .ptr H.next 0), (1, .v (.string n))])
    (fun done H' => done.length ≤ D.es.length ∧ Rng H' m H.next D.es done ∧ Only (· = m) H H' ∧ H.next < H'.next) (fun done => D.es.length - done.length) [] qP217 ⟨Nat.zero_le _, hr, ⟨by omega, fun q h1 h2 => hk1 q h1 h2⟩, by omega⟩ ?_
  rintro done H2 ⟨hdl2, hr2, ho2, hn2⟩
  refine AW.seq_region (fun K hK => ?_)
  refine AL.call rfl rfl rfl (AStep.nxt rfl rfl hr2 (by omega)) ?_
  rintro _ H3 (⟨hall, rfl, rfl⟩ | ⟨i, e, he, hni, hdn, rfl, hr3, hk3, hn3⟩)
  · refine AL.step rfl rfl rfl qP211 ?_
    refine AL.nil_then (hK _ _ ?_); clear hK K
    refine AW.seq_k (fun K2 hK2 => ?_)
    refine AW.cond _ rfl (fun hc => ?_) (fun hc => ?_)
    · cases hc
    refine AW.exit ?_
    refine hK1 _ _ ?_; try clear hK1 K1
    refine AW.rngEnd hr2 ?_
    refine rg fun K hK => ?_
    refine st qP223 <| st qP222 <| nt (hK _ _ ?_)
    clear hK K
    refine AW.ret (RetQ.mk (.inr rfl) (retA_tmp rfl qP21 retA_nil) ⟨?_, ?_⟩)
    · rw [doneO_all D n (by have := hr2.all hall; rwa [es_len] at this)]; rfl
    · refine (ho2.set (.inl rfl)).back ?_
      rintro q hq rfl
      rw [AHeap.get_set_same, hm]
  · refine AL.step rfl rfl rfl qP211 ?_
    refine AL.nil_then (hK _ _ ?_); clear hK K
    obtain ⟨p, hp, rfl⟩ := es_get he
    have hsz := sizeO_le hok n hp
    have hdo := doneO_le hok n done
    have hdl3 : done.length ≤ 2 := by have := hok.1; rw [es_len] at hdl2; omega
    have hnx := doneO_next D n done i p hp
    have ho3 : Only (· = m) H H3 := ⟨by have := ho2.nx; omega, fun q h1 h2 => (hk3 q (by omega)).trans (ho2.gt q h1 h2)⟩
    refine AW.seq_k (fun K2 hK2 => ?_)
    refine AW.cond _ rfl (fun hc => ?_) (fun hc => ?_)
    · refine AW.skip ?_
      refine hK2 _ _ ?_; try clear hK2 K2
      refine AW.block ?_
      refine rg fun K hK => ?_
      refine st (by exact SD.s rfl rfl rfl (by exact AStepD.ent rfl rfl hr3 he)) <| st qP220 <| st qP220 <| st qP43 <| st qP222 <| st0 (by exact ⟨rfl, rfl, qK17⟩) <| nt (hK _ _ ?_)
      clear hK K
      refine rg fun K hK => ?_
      refine st qP223 <| st qP223 <| st (by exact SD.s rfl rfl rfl qP23) <| nt (hK _ _ ?_)
      clear hK K
      have hpn : (p.1.data.toList = n.data.toList) ↔ p.1 = n := ⟨fun e => by rw [str_of p.1, str_of n, e], fun e => by rw [e]⟩
      have hend : ∀ Hq : AHeap, Rng Hq m H.next D.es (done ++ [i]) → Only (· = m) H Hq → H.next < Hq.next → D.es.length - (done ++ [i]).length < D.es.length - done.length ∧ (done ++ [i]).length ≤ D.es.length ∧ Rng Hq m H.next D.es (done ++ [i]) ∧ Only (· = m) H Hq ∧ H.next < Hq.next := fun Hq q1 q2 q3 => ⟨by simp; omega, by simp; omega, q1, q2, q3⟩
      have hlab : H3.next ≠ m ∧ H3.next ≠ H.next := by omega
      have hR : Rng ((H3.new (.cells 82 (AV.ofV (tt 82).zero))).set H3.next (.cells 82 [vecA p.2.b, .v (.bool p.2.safe)])) m H.next D.es (done ++ [i]) := hr3.keep qK14 qK14
      refine AW.cond _ rfl (fun hc => ?_) (fun hc => ?_)
      · have hc : sizeO n p = p.2.b.length := by
          rw [sizeO, if_neg]
          intro e
          have := hpn.2 e
          simp [this] at hc
        refine AW.region ?_
        refine st qP223 <| st qX21 <| st qX22 <| st qP224 <| st (by exact SD.s rfl rfl rfl (by first | exact AStepD.add rfl rfl rfl (by first | exact IntWalk.i64_in _ (by omega) | exact IntWalk.i64_in _ (by simp only [Bool.or_eq_true, Bool.and_eq_true, Bool.or_eq_false_iff, Bool.and_eq_false_iff, Bool.not_eq_true', Bool.not_eq_false', decide_eq_true_eq, decide_eq_false_iff_not, Int.not_lt, Int.not_le, beq_iff_eq] at *; omega) | exact rfl) | exact AStepD.str_add rfl rfl rfl (by omega))) <| st qP222 <| AL.nil ?_
        have hq := hend _ hR (ho3.new.set (.inr (by omega))) qX118
        refine ⟨done ++ [i], hq.1, qP217, hq.2⟩
      · have hc : sizeO n p = 0 := by
          rw [sizeO, if_pos]
          refine hpn.1 ?_
          simpa using hc
        refine AW.skip ?_
        have hq := hend _ hR (ho3.new.set (.inr (by omega))) qX118
        refine ⟨done ++ [i], hq.1, qP217, hq.2⟩
    · cases hc
end Go.Proofs.YtcomjodfkcnjhaaGreatDoor

/- Walks: a disk's calls: read, write, sync, rename, safe, arm. -/

namespace Go.Proofs.YtcomjodfkcnjhaaGreatDoor
open Go.Ax
open Cel (c)
theorem qK31 {p : Prop} (h : p := by first | exact AStepD.buildSlice0 tok rfl rfl rfl rfl (show _ = 1 from rfl) | exact AStepD.buildSlice1 tok rfl rfl rfl rfl (show _ = 1 from rfl) qP21 qP21 qP27 (by decide) qP213 | exact AStepD.buildSlice_seq tok rfl rfl rfl rfl (show _ = 1 from rfl) map_n rfl (by decide) (by decide) rfl qP32 qP213 | exact AStepD.buildSlice tok rfl rfl rfl rfl qP21 (by decide) (by decide) rfl qP213) : p := h
theorem qK32 {p : Prop} (h : p := by exact SD.s rfl rfl rfl qP23) : p := h
set_option linter.unusedSimpArgs false
set_option linter.unusedVariables false
set_option maxRecDepth 20000
open Cel (c)

theorem nil_vec : SubV (.v (.slice none 0 0)) (vecA ([] : List UInt8)) := by
  intro ρ I u h
  cases h
  exact .vec0
theorem bclone_calls (H : AHeap) (x : AV) (l : List UInt8) (hs : Ax.Src (H.new (.cells 5 [])) 1 x l.length (flat l)) (hl : l.length ≤ 1000000) : ACalls Tryz.prog 42 [x] H (fun r H' => r = vecA l ∧ H' = H) := by
  refine ACalls.quiet_keep ?_ (vecA_plain _)
  have hfl : (flat l).length = l.length := (flat_length l).trans (Nat.mul_one _)
  refine ACalls.of_body tok Tryz.func42 rfl Tryz.ntmps42 (Nat.le_of_ble_eq_true rfl) (fun base => ?_)
  refine rg fun K hK => ?_
  refine st qP222 <| nt (hK _ _ ?_)
  clear hK K
  refine AW.seq_k (fun K1 hK1 => ?_)
  refine AW.seq_region (fun K hK => ?_)
  refine AL.step rfl rfl rfl qP215 ?_
  refine AL.call rfl rfl rfl ((AStep.eq_nil tok rfl hs.isSl rfl rfl rfl)) ?_
  rintro _ H ⟨rfl, b, rfl, hb⟩
  refine AL.nil_then (hK _ _ ?_); clear hK K
  refine AW.cond _ rfl (fun hc => ?_) (fun hc => ?_)
  · have h0 : l = [] := List.eq_nil_of_length_eq_zero (hb hc)
    subst h0
    refine rg fun K hK => ?_
    refine st (by exact SD.s rfl rfl rfl (by exact AStepD.weak (AStepD.assign' rfl rfl) nil_vec)) <| nt (hK _ _ ?_)
    clear hK K
    refine AW.ret (RetQ.mk (.inr rfl) (retA_tmp rfl qP21 retA_nil) ⟨rfl, qP24⟩)
  refine AW.skip ?_
  refine hK1 _ _ ?_; try clear hK1 K1
  refine rg fun K hK => ?_
  refine st (by exact SD.s rfl rfl rfl qK31) <| st qP223 <| st (by exact SD.s rfl rfl rfl (by exact AStepD.append' (bk := 1) (l := H.next) (cs := []) (ys := flat l) (n := l.length) (m := l.length) (zs := flat l) (src := x) tok rfl rfl rfl rfl rfl rfl rfl rfl (show _ = 1 from rfl) rfl (by rw [AHeap.get_new_same]) rfl rfl hs (by rw [hfl, Nat.mul_one]) (flat_ones l) (by omega) (by omega) (Nat.zero_add _) rfl)) <| st qP222 <| nt (hK _ _ ?_)
  clear hK K
  refine AW.ret (RetQ.frz (.inr rfl) (retA_tmp rfl qP21 retA_nil) (l := H.next + 1) (t := 5) (cs := flat l) qP219 (.sl (by rw [hfl, Nat.mul_one, Nat.zero_add]; exact Nat.le_refl _)) ⟨?_, qP24⟩)
  rw [List.drop_zero, Nat.mul_one, List.take_of_length_le (by omega)]

def Dk.readB (D : Dk) (n : ByteArray) : List UInt8 := (D.findF n).b
theorem findF_no {D : Dk} {n : ByteArray} (h : D.findE n ≠ 0) : D.findF n = noFil := by
  unfold Dk.findE at h; unfold Dk.findF
  split
  · rfl
  · rename_i hd
    rw [if_neg hd] at h
    rw [Dk.got]
    by_cases hh : D.has n = true
    · rw [if_pos hh] at h; exact absurd rfl h
    · rw [Dk.has] at hh
      cases hk : getK D.fs n with
      | none => rfl
      | some f => rw [hk] at hh; exact absurd rfl hh
theorem find_le {D : Dk} (hok : D.Ok) (n : ByteArray) : (D.findF n).b.length ≤ 65536 := by
  unfold Dk.findF
  split
  · exact Nat.zero_le _
  · rw [Dk.got]
    cases hk : getK D.fs n with
    | none => exact Nat.zero_le _
    | some f => exact hok.2 _ (getK_some_mem hk)
theorem dread_calls (H : AHeap) (d m : Nat) (D : Dk) (n : ByteArray) (h : DkAt H d m D) (hok : D.Ok) : ACalls Tryz.prog 39 [.ptr d 0, .v (.string n)] H (fun r H' => r = .tup [vecA (D.readB n), .v (.int .i64 (D.findE n))] ∧ H' = H) := by
  have hd := h.d
  have hm := h.m
  have hle := find_le hok n
  refine ACalls.quiet_keep ?_ (.tup fun z hz => ?_)
  · refine ACalls.of_body tok Tryz.func39 rfl Tryz.ntmps39 (Nat.le_of_ble_eq_true rfl) (fun base => ?_)
    refine rg fun K hK => ?_
    refine st qP222 <| st qP222 <| nt (hK _ _ ?_)
    clear hK K
    refine rg fun K hK => ?_
    refine st qP223 <| st qP223 <| st (by exact SD.s rfl rfl rfl (by exact AStepD.callf rfl en70 rfl (find_calls _ d m D n h))) <| st qP223 <| st qP220 <| st qP220 <| st qP43 <| st0 (by exact ⟨rfl, rfl, qK17⟩) <| st qP222 <| nt (hK _ _ ?_)
    clear hK K
    refine AW.seq_k (fun K1 hK1 => ?_)
    refine rg fun K hK => ?_
    refine st qP223 <| st qK32 <| nt (hK _ _ ?_)
    clear hK K
    refine AW.cond _ rfl (fun hc => ?_) (fun hc => ?_)
    · have hc : D.findE n ≠ 0 := by simpa using hc
      refine rg fun K hK => ?_
      refine st qP223 <| st (by exact SD.s rfl rfl rfl (by exact AStepD.weak (AStepD.assign' rfl rfl) nil_vec)) <| st qP222 <| nt (hK _ _ ?_)
      clear hK K
      refine AW.ret (RetQ.mk (.inr rfl) (retA_tmp rfl qP21 (retA_tmp rfl qP21 retA_nil)) ⟨by rw [Dk.readB, findF_no hc]; rfl, qP24⟩)
    have hc : D.findE n = 0 := by simpa using hc
    refine AW.skip ?_
    refine hK1 _ _ ?_; try clear hK1 K1
    refine rg fun K hK => ?_
    refine st qX21 <| st qX22 <| st (by exact SD.s rfl rfl rfl (by exact AStepD.callf rfl en42 rfl (bclone_calls _ _ (D.findF n).b .vec (by omega)))) <| st qP222 <| st qP222 <| nt (hK _ _ ?_)
    clear hK K
    refine AW.ret (RetQ.mk (.inr rfl) (retA_tmp rfl qP21 (retA_tmp rfl qP21 retA_nil)) ⟨by rw [hc]; rfl, qP24⟩)
  · simp only [List.mem_cons, List.not_mem_nil, or_false] at hz
    rcases hz with rfl | rfl
    · exact vecA_plain _
    · exact .v _
theorem safe_calls (H : AHeap) (d m : Nat) (D : Dk) (n : ByteArray) (h : DkAt H d m D) : ACalls Tryz.prog 23 [.ptr d 0, .v (.string n)] H (fun r H' => r = .v (.bool (D.got n).safe) ∧ H' = H) := by
  have hd := h.d
  have hm := h.m
  refine ACalls.quiet_keep ?_ (.v _)
  refine ACalls.of_body tok Tryz.func23 rfl Tryz.ntmps23 (Nat.le_of_ble_eq_true rfl) (fun base => ?_)
  refine rg fun K hK => ?_
  refine st qP222 <| nt (hK _ _ ?_)
  clear hK K
  refine rg fun K hK => ?_
  refine st qP223 <| st qK11 <| st qX21 <| st qX22 <| st qP223 <| st (by exact SD.s rfl rfl rfl (by exact look_file1 h rfl rfl rfl)) <| st (by exact SD.s rfl rfl rfl (by exact AStepD.field' tok rfl rfl rfl rfl rfl rfl qX119 (agg_one rfl) qP21)) <| st qP222 <| nt (hK _ _ ?_)
  clear hK K
  refine AW.ret (RetQ.mk (.inr rfl) (retA_tmp rfl qP21 retA_nil) ⟨rfl, qP24⟩)
def Dk.arm (D : Dk) (n : Int) : Dk := { D with left := if n < -1 then -1 else n }
theorem arm_calls (H : AHeap) (d m : Nat) (D : Dk) (n : Int) (h : DkAt H d m D) : ACalls Tryz.prog 21 [.ptr d 0, .v (.int .i64 n)] H (fun r H' => DkAt H' d m (D.arm n) ∧ Only (· = d) H H') := by
  have hd := h.d
  have hm := h.m
  have hne := h.ne
  refine ACalls.of_body tok Tryz.func21 rfl Tryz.ntmps21 (Nat.le_of_ble_eq_true rfl) (fun base => ?_)
  refine AW.region ?_
  refine st qP223 <| st qP223 <| st (by exact SD.s rfl rfl rfl (by exact AStepD.max2 rfl rfl rfl rfl)) <| st qK11 <| st qX214 <| st0 (by exact ⟨rfl, rfl, qK17⟩) <| AL.nil ?_
  exact RetQ.mk (.inl rfl) retA_nil ⟨⟨qP219, qP219⟩, (Only.refl _ _).set (.inl rfl)⟩

/-! ### Writes -/
abbrev lowS (n : List UInt8) : Prop := Low n ∧ n ≠ [] ∧ n.length ≤ 16
def Dk.put (D : Dk) (n : ByteArray) (f : Fil) : Dk := { D with fs := putK D.fs n f }
def Dk.write (D : Dk) (n : ByteArray) (b : List UInt8) : Dk × Int :=
  if D.down then (D, 50) else if (b.length : Int) > D.room - (D.others n : Nat) then (D, 51) else
    let D1 := (D.put n ⟨b, false⟩).step; (D1, if D1.down then 50 else 0)
theorem others_le {D : Dk} (h : D.Ok) (n : ByteArray) : D.others n ≤ 131072 := by
  rw [← doneO_all D n (List.Perm.refl _)]
  have := doneO_le h n (List.range D.fs.length)
  have := h.1
  rw [List.length_range] at *
  omega
abbrev both (d m : Nat) (q : Nat) : Prop := q = d ∨ q = m
set_option maxHeartbeats 1000000 in
theorem write_calls (H : AHeap) (d m : Nat) (D : Dk) (n : List UInt8) (x : AV) (b : List UInt8) (h : DkAt H d m D) (hok : D.Ok) (hn : lowS n) (hs : Ax.Src (H.new (.cells 5 [])) 1 x b.length (flat b)) (hb : b.length ≤ 1000000) (hr : 0 ≤ D.room ∧ D.room ≤ 65536) (hl : D.left ≤ 9223372036854775807) :
    ACalls Tryz.prog 17 [.ptr d 0, strA n, x] H (fun r H' => r = .v (.int .i64 (D.write (str n) b).2) ∧ DkAt H' d m (D.write (str n) b).1 ∧ Only (both d m) H H') := by
  have hd := h.d
  have hm := h.m
  have hne := h.ne
  have hsl := hs.isSl
  have hol := others_le hok (str n)
  refine ACalls.of_body tok Tryz.func17 rfl Tryz.ntmps17 (Nat.le_of_ble_eq_true rfl) (fun base => ?_)
  refine rg fun K hK => ?_
  refine st qP222 <| nt (hK _ _ ?_)
  clear hK K
  refine AW.seq_k (fun K1 hK1 => ?_)
  refine AW.block ?_
  refine rg fun K hK => ?_
  refine st qP223 <| st qK11 <| st qK19 <| st qX22 <| st qP222 <| nt (hK _ _ ?_)
  clear hK K
  refine AW.cond _ rfl (fun hc => ?_) (fun hc => ?_)
  · have hc : D.down = true := hc
    refine rg fun K hK => ?_
    refine st qP222 <| nt (hK _ _ ?_)
    clear hK K
    refine AW.ret (RetQ.mk (.inr rfl) (retA_tmp rfl qP21 retA_nil) ⟨by rw [Dk.write, if_pos hc]; rfl, by rw [Dk.write, if_pos hc]; exact h, Only.refl _ _⟩)
  have hdn : D.down = false := hc
  refine rg fun K hK => ?_
  refine st qP223 <| st (by exact SD.s rfl rfl rfl (by exact AStepD.callf rfl en40 rfl (named_calls _ n hn.1 hn.2.1 hn.2.2))) <| st (by exact SD.s rfl rfl rfl (by first | exact AStepD.not rfl rfl | exact AStepD.neg rfl rfl (by first | exact IntWalk.i64_in _ (by omega) | exact IntWalk.i64_in _ (by simp only [Bool.or_eq_true, Bool.and_eq_true, Bool.or_eq_false_iff, Bool.and_eq_false_iff, Bool.not_eq_true', Bool.not_eq_false', decide_eq_true_eq, decide_eq_false_iff_not, Int.not_lt, Int.not_le, beq_iff_eq] at *; omega) | exact rfl))) <| st qP222 <| nt (hK _ _ ?_)
  clear hK K
  refine AW.cond _ rfl (fun hc => ?_) (fun hc => ?_)
  · cases hc
  clear hc
  refine AW.seq_k (fun K hK => ?_)
  apply AW.draw mixed [_, _, _, _, _, _, _, _, _, _, _, _] [] [_] [(0, 0), (1, 0), (2, 0), (3, 0), (4, 0), (5, 0), (6, 0), (7, 0), (8, 0), (9, 0), (10, 0), (11, 0)] rfl rfl rfl qP33
  · refine ⟨?_, ?_, ?_, ?_, ?_, ?_, ?_, ?_, ?_, ?_, ?_, ?_⟩
    · refine Ob.mk _ [2] 0 rfl rfl (restr_cons qP21 restr_nil) rfl ?_
      simp only [List.getD_cons_zero, List.getD_cons_succ]
      exact GStep.plain rfl qP215
    · refine Ob.mk _ [17] 0 rfl rfl (restr_cons qP21 restr_nil) rfl ?_
      simp only [List.getD_cons_zero, List.getD_cons_succ]
      exact GStep.plain rfl (by exact AStepD.len_sl tok rfl rfl hsl rfl rfl)
    · refine Ob.mk _ [0] 0 rfl rfl (restr_cons qP21 restr_nil) rfl ?_
      simp only [List.getD_cons_zero, List.getD_cons_succ]
      exact GStep.plain rfl qP215
    · refine Ob.mk _ [19] 0 rfl rfl (restr_cons qP21 restr_nil) rfl ?_
      simp only [List.getD_cons_zero, List.getD_cons_succ]
      exact GStep.plain rfl qP35
    · refine Ob.mk _ [20] 0 rfl rfl (restr_cons qP21 restr_nil) rfl ?_
      simp only [List.getD_cons_zero, List.getD_cons_succ]
      exact GStep.plain rfl qX211
    · refine Ob.mk _ [21] 0 rfl rfl (restr_cons qP21 restr_nil) rfl ?_
      simp only [List.getD_cons_zero, List.getD_cons_succ]
      exact GStep.plain rfl qP34
    · refine Ob.mk _ [0] 0 rfl rfl (restr_cons qP21 restr_nil) rfl ?_
      simp only [List.getD_cons_zero, List.getD_cons_succ]
      exact GStep.plain rfl qP215
    · refine Ob.mk _ [1] 0 rfl rfl (restr_cons qP21 restr_nil) rfl ?_
      simp only [List.getD_cons_zero, List.getD_cons_succ]
      exact GStep.plain rfl qP215
    · refine Ob.mk _ [23, 24] 0 rfl rfl (restr_cons qP21 (restr_cons qP21 restr_nil)) rfl ?_
      simp only [List.getD_cons_zero, List.getD_cons_succ]
      exact GStep.plain rfl (by exact AStepD.callf rfl en41 rfl (others_calls _ d m D (str n) h hok))
    · refine Ob.mk _ [22, 25] 0 rfl rfl (restr_cons qP21 (restr_cons qP21 restr_nil)) rfl ?_
      simp only [List.getD_cons_zero, List.getD_cons_succ]
      exact GStep.plain rfl (by exact AStepD.sub rfl rfl rfl (by first | exact IntWalk.i64_in _ (by omega) | exact IntWalk.i64_in _ (by simp only [Bool.or_eq_true, Bool.and_eq_true, Bool.or_eq_false_iff, Bool.and_eq_false_iff, Bool.not_eq_true', Bool.not_eq_false', decide_eq_true_eq, decide_eq_false_iff_not, Int.not_lt, Int.not_le, beq_iff_eq] at *; omega) | exact rfl))
    · refine Ob.mk _ [18, 26] 0 rfl rfl (restr_cons qP21 (restr_cons qP21 restr_nil)) rfl ?_
      simp only [List.getD_cons_zero, List.getD_cons_succ]
      exact GStep.plain rfl qX117
    · refine Ob.mk _ [27] 0 rfl rfl (restr_cons qP21 restr_nil) rfl ?_
      simp only [List.getD_cons_zero, List.getD_cons_succ]
      exact GStep.plain rfl qP214
  refine hK _ _ ?_; clear hK K
  refine AW.frame qP38 qP39 ?_
  refine AW.cond _ rfl (fun hc => ?_) (fun hc => ?_)
  · have hc := of_decide_eq_true hc
    refine rg fun K hK => ?_
    refine st qP222 <| nt (hK _ _ ?_)
    clear hK K
    refine AW.ret (RetQ.mk (.inr rfl) (retA_tmp rfl qP21 retA_nil) ⟨by rw [Dk.write, hdn, if_neg Bool.false_ne_true, if_pos hc]; rfl, by rw [Dk.write, hdn, if_neg Bool.false_ne_true, if_pos hc]; exact h, Only.refl _ _⟩)
  have hc := of_decide_eq_false hc
  have hw : D.write (str n) b = ((D.put (str n) ⟨b, false⟩).step, if (D.put (str n) ⟨b, false⟩).step.down then 50 else 0) := by rw [Dk.write, hdn, if_neg Bool.false_ne_true, if_neg hc]
  refine AW.skip ?_
  refine hK1 _ _ ?_; try clear hK1 K1
  refine AW.seq_k (fun K hK => ?_)
  apply AW.draw mixed [_, _, _, _, _, _, _, _, _] [6, 8] [_, _, _] [(0, 0), (1, 0), (2, 0), (3, 0), (4, 0), (5, 0), (6, 0), (7, 1), (8, 1), (0, 1), (1, 1), (2, 1), (3, 1), (4, 1)] rfl rfl rfl qP33
  · refine ⟨?_, ?_, ?_, ?_, ?_, ?_, ?_, ?_, ?_, ?_, ?_, ?_, ?_, ?_⟩
    · refine Ob.mk _ [0] 0 rfl rfl (restr_cons qP21 restr_nil) rfl ?_
      simp only [List.getD_cons_zero, List.getD_cons_succ]
      exact GStep.plain rfl qP215
    · refine Ob.mk _ [28] 0 rfl rfl (restr_cons qP21 restr_nil) rfl ?_
      simp only [List.getD_cons_zero, List.getD_cons_succ]
      exact GStep.plain rfl qP35
    · refine Ob.mk _ [29] 0 rfl rfl (restr_cons qP21 restr_nil) rfl ?_
      simp only [List.getD_cons_zero, List.getD_cons_succ]
      exact GStep.plain rfl qP321
    · refine Ob.mk _ [30] 0 rfl rfl (restr_cons qP21 restr_nil) rfl ?_
      simp only [List.getD_cons_zero, List.getD_cons_succ]
      exact GStep.plain rfl qP34
    · refine Ob.mk _ [1] 0 rfl rfl (restr_cons qP21 restr_nil) rfl ?_
      simp only [List.getD_cons_zero, List.getD_cons_succ]
      exact GStep.plain rfl qP215
    · refine Ob.mk _ [2] 0 rfl rfl (restr_cons qP21 restr_nil) rfl ?_
      simp only [List.getD_cons_zero, List.getD_cons_succ]
      exact GStep.plain rfl qP215
    · refine Ob.mk _ [33] 1 rfl rfl (restr_cons qP21 restr_nil) rfl ?_
      simp only [List.getD_cons_zero, List.getD_cons_succ]
      exact GStep.plain rfl (by exact AStepD.callf rfl en42 rfl (bclone_calls _ x b hs hb))
    · refine Ob.mk _ [34] 1 rfl rfl (restr_cons qP21 restr_nil) rfl ?_
      simp only [List.getD_cons_zero, List.getD_cons_succ]
      exact GStep.plain rfl (by exact AStepD.val (AStepD.build tok rfl rfl rfl (by decide) rfl (show ∀ p ∈ [((0 : Nat), vecA b)], ∀ x ∈ p.2.cells, x.one = true from by simp [AV.cells, AV.one])) (show _ = Fil.av ⟨b, false⟩ from rfl))
    · refine Ob.mk _ [31, 32, 35] 2 rfl rfl (restr_cons qP21 (restr_cons qP21 (restr_cons qP21 restr_nil))) rfl ?_
      simp only [List.getD_cons_zero, List.getD_cons_succ]
      exact GStep.plain rfl (by exact AStepD.kmapUpdate (κ := ByteArray) (v := Fil.av ⟨b, false⟩) tok (str n) rfl rfl rfl rfl rfl rfl rfl rfl hm (putK_tmap Fil.av D.fs (str n) ⟨b, false⟩))
    · refine Ob.mk _ [0] 1 rfl rfl (restr_cons qP21 restr_nil) rfl ?_
      simp only [List.getD_cons_zero, List.getD_cons_succ]
      exact GStep.plain rfl qP215
    · refine Ob.mk _ [28] 1 rfl rfl (restr_cons qP21 restr_nil) rfl ?_
      simp only [List.getD_cons_zero, List.getD_cons_succ]
      exact GStep.plain rfl qP35
    · refine Ob.mk _ [29] 1 rfl rfl (restr_cons qP21 restr_nil) rfl ?_
      simp only [List.getD_cons_zero, List.getD_cons_succ]
      exact GStep.plain rfl qP321
    · refine Ob.mk _ [30] 1 rfl rfl (restr_cons qP21 restr_nil) rfl ?_
      simp only [List.getD_cons_zero, List.getD_cons_succ]
      exact GStep.plain rfl qP34
    · refine Ob.mk _ [1] 1 rfl rfl (restr_cons qP21 restr_nil) rfl ?_
      simp only [List.getD_cons_zero, List.getD_cons_succ]
      exact GStep.plain rfl qP215
  refine hK _ _ ?_; clear hK K
  refine AW.frame qP38 qP39 ?_
  refine AW.seq_k (fun K2 hK2 => ?_)
  refine rg fun K hK => ?_
  refine st qP223 <| ?_
  refine AL.call rfl rfl rfl (AStep.callf rfl en43 (step_calls _ d m (D.put (str n) ⟨b, false⟩) ⟨qP219, qP219⟩ hl)) ?_; rintro _ H2 ⟨rfl, h2, o2⟩
  refine st (by exact SD.s rfl rfl rfl (by first | exact AStepD.not rfl rfl | exact AStepD.neg rfl rfl (by first | exact IntWalk.i64_in _ (by omega) | exact IntWalk.i64_in _ (by simp only [Bool.or_eq_true, Bool.and_eq_true, Bool.or_eq_false_iff, Bool.and_eq_false_iff, Bool.not_eq_true', Bool.not_eq_false', decide_eq_true_eq, decide_eq_false_iff_not, Int.not_lt, Int.not_le, beq_iff_eq] at *; omega) | exact rfl))) <| nt (hK _ _ ?_)
  clear hK K
  have ho : Only (both d m) H H2 := ((Only.refl (both d m) H).set (l := m) (.inl (.inr rfl))).trans (o2.sub fun q _ e => .inl e)
  refine AW.cond _ rfl (fun hc => ?_) (fun hc => ?_)
  · have hc : (D.put (str n) ⟨b, false⟩).step.down = true := by simpa using hc
    refine rg fun K hK => ?_
    refine st qP222 <| nt (hK _ _ ?_)
    clear hK K
    refine AW.ret (RetQ.mk (.inr rfl) (retA_tmp rfl qP21 retA_nil) ⟨by rw [hw, hc]; rfl, by rw [hw]; exact h2, ho⟩)
  · have hc : (D.put (str n) ⟨b, false⟩).step.down = false := by simpa using hc
    refine AW.skip ?_
    refine hK2 _ _ ?_; try clear hK2 K2
    refine rg fun K hK => ?_
    refine st qP222 <| nt (hK _ _ ?_)
    clear hK K
    refine AW.ret (RetQ.mk (.inr rfl) (retA_tmp rfl qP21 retA_nil) ⟨by rw [hw, hc]; rfl, by rw [hw]; exact h2, ho⟩)

def Dk.sync (D : Dk) (n : ByteArray) : Dk × Int :=
  if D.findE n ≠ 0 then (D, D.findE n) else if D.step.down then (D.step, 50) else (D.step.put n ⟨(D.findF n).b, true⟩, 0)
theorem sync_calls (H : AHeap) (d m : Nat) (D : Dk) (n : ByteArray) (h : DkAt H d m D) (hl : D.left ≤ 9223372036854775807) :
    ACalls Tryz.prog 33 [.ptr d 0, .v (.string n)] H (fun r H' => r = .v (.int .i64 (D.sync n).2) ∧ DkAt H' d m (D.sync n).1 ∧ Only (both d m) H H') := by
  have hd := h.d
  have hm := h.m
  have hne := h.ne
  refine ACalls.lts fun hlt => ?_
  have hdl := hlt _ _ hd
  have hml := hlt _ _ hm
  refine ACalls.of_body tok Tryz.func33 rfl Tryz.ntmps33 (Nat.le_of_ble_eq_true rfl) (fun base => ?_)
  refine rg fun K hK => ?_
  refine st qP222 <| nt (hK _ _ ?_)
  clear hK K
  refine rg fun K hK => ?_
  refine st qP223 <| st qP223 <| st (by exact SD.s rfl rfl rfl (by exact AStepD.callf rfl en70 rfl (find_calls _ d m D n h))) <| st qP223 <| st qP220 <| st qP220 <| st qP43 <| st0 (by exact ⟨rfl, rfl, qK17⟩) <| st qP222 <| nt (hK _ _ ?_)
  clear hK K
  refine AW.seq_k (fun K1 hK1 => ?_)
  refine AW.block ?_
  refine rg fun K hK => ?_
  refine st qP223 <| st qK32 <| st qP222 <| nt (hK _ _ ?_)
  clear hK K
  refine AW.cond _ rfl (fun hc => ?_) (fun hc => ?_)
  · have hc : D.findE n ≠ 0 := by simpa using hc
    refine rg fun K hK => ?_
    refine st qP223 <| st qP222 <| nt (hK _ _ ?_)
    clear hK K
    refine AW.ret (RetQ.mk (.inr rfl) (retA_tmp rfl qP21 retA_nil) ⟨by rw [Dk.sync, if_pos hc]; rfl, by rw [Dk.sync, if_pos hc]; exact ⟨qP219, qP219⟩, Only.keep qP24⟩)
  have hc : ¬ D.findE n ≠ 0 := by simpa using hc
  refine rg fun K hK => ?_
  refine st qP223 <| ?_
  refine AL.call rfl rfl rfl (AStep.callf rfl en43 (step_calls _ d m D ⟨qP219, qP219⟩ hl)) ?_; rintro _ H2 ⟨rfl, h2, o2⟩
  refine st (by exact SD.s rfl rfl rfl (by first | exact AStepD.not rfl rfl | exact AStepD.neg rfl rfl (by first | exact IntWalk.i64_in _ (by omega) | exact IntWalk.i64_in _ (by simp only [Bool.or_eq_true, Bool.and_eq_true, Bool.or_eq_false_iff, Bool.and_eq_false_iff, Bool.not_eq_true', Bool.not_eq_false', decide_eq_true_eq, decide_eq_false_iff_not, Int.not_lt, Int.not_le, beq_iff_eq] at *; omega) | exact rfl))) <| st qP222 <| nt (hK _ _ ?_)
  clear hK K
  have ho : Only (both d m) H H2 := (Only.keep qP24).trans (o2.sub fun q _ e => .inl e)
  have hx : H2.get H.next = some (.cells 82 [vecA (D.findF n).b, .v (.bool (D.findF n).safe)]) := (o2.gt _ qX118 (by omega)).trans qK14
  have hnx := o2.nx
  simp only [za, zb] at hnx
  refine AW.cond _ rfl (fun hc2 => ?_) (fun hc2 => ?_)
  · have hc2 : D.step.down = true := by simpa using hc2
    refine rg fun K hK => ?_
    refine st qP222 <| nt (hK _ _ ?_)
    clear hK K
    refine AW.ret (RetQ.mk (.inr rfl) (retA_tmp rfl qP21 retA_nil) ⟨by rw [Dk.sync, if_neg hc, if_pos hc2]; rfl, by rw [Dk.sync, if_neg hc, if_pos hc2]; exact h2, ho⟩)
  have hc2 : D.step.down = false := by simpa using hc2
  have hd2 := h2.d
  have hm2 := h2.m
  have hs : D.sync n = (D.step.put n ⟨(D.findF n).b, true⟩, 0) := by rw [Dk.sync, if_neg hc, if_neg (by rw [hc2]; decide)]
  refine AW.skip ?_
  refine hK1 _ _ ?_; try clear hK1 K1
  refine rg fun K hK => ?_
  refine st qX213 <| st0 (by exact ⟨rfl, rfl, qK17⟩) <| nt (hK _ _ ?_)
  clear hK K
  refine AW.seq_k (fun K hK => ?_)
  apply AW.draw mixed [_, _, _, _, _, _, _] [6] [_, _] [(0, 0), (1, 0), (2, 0), (3, 0), (4, 0), (5, 0), (6, 0)] rfl rfl rfl qP33
  · refine ⟨?_, ?_, ?_, ?_, ?_, ?_, ?_⟩
    · refine Ob.mk _ [0] 0 rfl rfl (restr_cons qP21 restr_nil) rfl ?_
      simp only [List.getD_cons_zero, List.getD_cons_succ]
      exact GStep.plain rfl qP215
    · refine Ob.mk _ [22] 0 rfl rfl (restr_cons qP21 restr_nil) rfl ?_
      simp only [List.getD_cons_zero, List.getD_cons_succ]
      exact GStep.plain rfl qP35
    · refine Ob.mk _ [23] 0 rfl rfl (restr_cons qP21 restr_nil) rfl ?_
      simp only [List.getD_cons_zero, List.getD_cons_succ]
      exact GStep.plain rfl qP321
    · refine Ob.mk _ [24] 0 rfl rfl (restr_cons qP21 restr_nil) rfl ?_
      simp only [List.getD_cons_zero, List.getD_cons_succ]
      exact GStep.plain rfl qP34
    · refine Ob.mk _ [1] 0 rfl rfl (restr_cons qP21 restr_nil) rfl ?_
      simp only [List.getD_cons_zero, List.getD_cons_succ]
      exact GStep.plain rfl qP215
    · refine Ob.mk _ [5] 0 rfl rfl (restr_cons qP21 restr_nil) rfl ?_
      simp only [List.getD_cons_zero, List.getD_cons_succ]
      exact GStep.plain rfl (by exact AStepD.val (AStepD.load_agg tok rfl rfl rfl qP219 rfl (show _ = 2 from rfl) qX119 rfl) (y := Fil.av ⟨(D.findF n).b, true⟩) rfl)
    · refine Ob.mk _ [25, 26, 27] 1 rfl rfl (restr_cons qP21 (restr_cons qP21 (restr_cons qP21 restr_nil))) rfl ?_
      simp only [List.getD_cons_zero, List.getD_cons_succ]
      exact GStep.plain rfl (by exact AStepD.kmapUpdate (κ := ByteArray) (v := Fil.av ⟨(D.findF n).b, true⟩) tok n rfl rfl rfl rfl rfl rfl rfl rfl qP219 (putK_tmap Fil.av D.step.fs n ⟨(D.findF n).b, true⟩))
  refine hK _ _ ?_; clear hK K
  refine AW.frame qP38 qP39 ?_
  refine rg fun K hK => ?_
  refine st qP222 <| nt (hK _ _ ?_)
  clear hK K
  refine AW.ret (RetQ.mk (.inr rfl) (retA_tmp rfl qP21 retA_nil) ⟨by rw [hs]; rfl, by rw [hs]; exact ⟨qP219, qP219⟩, (ho.set (.inr (Nat.le_refl _))).set (.inl (.inr rfl))⟩)

def Dk.mv (D : Dk) (a b : ByteArray) (f : Fil) : Dk := { D with fs := putK (delK D.fs a) b f }
def Dk.rename (D : Dk) (a b : ByteArray) : Dk × Int :=
  if D.findE a ≠ 0 then (D, D.findE a) else if D.step.down then (D.step, 50) else (D.step.mv a b (D.findF a), 0)
theorem rename_calls (H : AHeap) (d m : Nat) (D : Dk) (a : ByteArray) (b : List UInt8) (hn : lowS b) (h : DkAt H d m D) (hl : D.left ≤ 9223372036854775807) :
    ACalls Tryz.prog 35 [.ptr d 0, .v (.string a), strA b] H (fun r H' => r = .v (.int .i64 (D.rename a (str b)).2) ∧ DkAt H' d m (D.rename a (str b)).1 ∧ Only (both d m) H H') := by
  have hd := h.d
  have hm := h.m
  have hne := h.ne
  refine ACalls.lts fun hlt => ?_
  have hdl := hlt _ _ hd
  have hml := hlt _ _ hm
  refine ACalls.of_body tok Tryz.func35 rfl Tryz.ntmps35 (Nat.le_of_ble_eq_true rfl) (fun base => ?_)
  refine rg fun K hK => ?_
  refine st qP222 <| nt (hK _ _ ?_)
  clear hK K
  refine rg fun K hK => ?_
  refine st qP223 <| st qP223 <| st (by exact SD.s rfl rfl rfl (by exact AStepD.callf rfl en70 rfl (find_calls _ d m D a h))) <| st qP223 <| st qP220 <| st qP220 <| st qP43 <| st0 (by exact ⟨rfl, rfl, qK17⟩) <| st qP222 <| nt (hK _ _ ?_)
  clear hK K
  refine AW.seq_k (fun K1 hK1 => ?_)
  refine AW.block ?_
  refine rg fun K hK => ?_
  refine st qP223 <| st qK32 <| st qP222 <| nt (hK _ _ ?_)
  clear hK K
  refine AW.cond _ rfl (fun hc => ?_) (fun hc => ?_)
  · have hc : D.findE a ≠ 0 := by simpa using hc
    refine rg fun K hK => ?_
    refine st qP223 <| st qP222 <| nt (hK _ _ ?_)
    clear hK K
    refine AW.ret (RetQ.mk (.inr rfl) (retA_tmp rfl qP21 retA_nil) ⟨by rw [Dk.rename, if_pos hc]; rfl, by rw [Dk.rename, if_pos hc]; exact ⟨qP219, qP219⟩, Only.keep qP24⟩)
  have hc : ¬ D.findE a ≠ 0 := by simpa using hc
  refine rg fun K hK => ?_
  refine st qP223 <| st (by exact SD.s rfl rfl rfl (by exact AStepD.callf rfl en40 rfl (named_calls _ b hn.1 hn.2.1 hn.2.2))) <| st (by exact SD.s rfl rfl rfl (by first | exact AStepD.not rfl rfl | exact AStepD.neg rfl rfl (by first | exact IntWalk.i64_in _ (by omega) | exact IntWalk.i64_in _ (by simp only [Bool.or_eq_true, Bool.and_eq_true, Bool.or_eq_false_iff, Bool.and_eq_false_iff, Bool.not_eq_true', Bool.not_eq_false', decide_eq_true_eq, decide_eq_false_iff_not, Int.not_lt, Int.not_le, beq_iff_eq] at *; omega) | exact rfl))) <| st qP222 <| nt (hK _ _ ?_)
  clear hK K
  refine AW.cond _ rfl (fun hc0 => ?_) (fun hc0 => ?_)
  · cases hc0
  clear hc0
  refine rg fun K hK => ?_
  refine st qP223 <| ?_
  refine AL.call rfl rfl rfl (AStep.callf rfl en43 (step_calls _ d m D ⟨qP219, qP219⟩ hl)) ?_; rintro _ H2 ⟨rfl, h2, o2⟩
  refine st (by exact SD.s rfl rfl rfl (by first | exact AStepD.not rfl rfl | exact AStepD.neg rfl rfl (by first | exact IntWalk.i64_in _ (by omega) | exact IntWalk.i64_in _ (by simp only [Bool.or_eq_true, Bool.and_eq_true, Bool.or_eq_false_iff, Bool.and_eq_false_iff, Bool.not_eq_true', Bool.not_eq_false', decide_eq_true_eq, decide_eq_false_iff_not, Int.not_lt, Int.not_le, beq_iff_eq] at *; omega) | exact rfl))) <| st qP222 <| nt (hK _ _ ?_)
  clear hK K
  have ho : Only (both d m) H H2 := (Only.keep qP24).trans (o2.sub fun q _ e => .inl e)
  have hx : H2.get H.next = some (.cells 82 [vecA (D.findF a).b, .v (.bool (D.findF a).safe)]) := (o2.gt _ qX118 (by omega)).trans qK14
  have hnx := o2.nx
  simp only [za, zb] at hnx
  refine AW.cond _ rfl (fun hc2 => ?_) (fun hc2 => ?_)
  · have hc2 : D.step.down = true := by simpa using hc2
    refine rg fun K hK => ?_
    refine st qP222 <| nt (hK _ _ ?_)
    clear hK K
    refine AW.ret (RetQ.mk (.inr rfl) (retA_tmp rfl qP21 retA_nil) ⟨by rw [Dk.rename, if_neg hc, if_pos hc2]; rfl, by rw [Dk.rename, if_neg hc, if_pos hc2]; exact h2, ho⟩)
  have hc2 : D.step.down = false := by simpa using hc2
  have hd2 := h2.d
  have hm2 := h2.m
  have hs : D.rename a (str b) = (D.step.mv a (str b) (D.findF a), 0) := by rw [Dk.rename, if_neg hc, if_neg (by rw [hc2]; decide)]
  refine AW.skip ?_
  refine hK1 _ _ ?_; try clear hK1 K1
  refine rg fun K hK => ?_
  refine st qP223 <| st qK11 <| st qX21 <| st qX22 <| st qP223 <| st0 (by exact ⟨rfl, rfl, (by exact AStepD.kdelete (κ := ByteArray) tok a rfl rfl rfl rfl rfl rfl rfl qP219 (delK_tmap Fil.av D.step.fs a))⟩) <| nt (hK _ _ ?_)
  clear hK K
  refine AW.seq_k (fun K hK => ?_)
  apply AW.draw mixed [_, _, _, _, _, _, _] [6] [_, _] [(0, 0), (1, 0), (2, 0), (3, 0), (4, 0), (5, 0), (6, 0)] rfl rfl rfl qP33
  · refine ⟨?_, ?_, ?_, ?_, ?_, ?_, ?_⟩
    · refine Ob.mk _ [0] 0 rfl rfl (restr_cons qP21 restr_nil) rfl ?_
      simp only [List.getD_cons_zero, List.getD_cons_succ]
      exact GStep.plain rfl qP215
    · refine Ob.mk _ [32] 0 rfl rfl (restr_cons qP21 restr_nil) rfl ?_
      simp only [List.getD_cons_zero, List.getD_cons_succ]
      exact GStep.plain rfl qP35
    · refine Ob.mk _ [33] 0 rfl rfl (restr_cons qP21 restr_nil) rfl ?_
      simp only [List.getD_cons_zero, List.getD_cons_succ]
      exact GStep.plain rfl qP321
    · refine Ob.mk _ [34] 0 rfl rfl (restr_cons qP21 restr_nil) rfl ?_
      simp only [List.getD_cons_zero, List.getD_cons_succ]
      exact GStep.plain rfl qP34
    · refine Ob.mk _ [2] 0 rfl rfl (restr_cons qP21 restr_nil) rfl ?_
      simp only [List.getD_cons_zero, List.getD_cons_succ]
      exact GStep.plain rfl qP215
    · refine Ob.mk _ [7] 0 rfl rfl (restr_cons qP21 restr_nil) rfl ?_
      simp only [List.getD_cons_zero, List.getD_cons_succ]
      exact GStep.plain rfl (by exact AStepD.val (AStepD.load_agg tok rfl rfl rfl qP219 rfl (show _ = 2 from rfl) qX119 rfl) (y := Fil.av (D.findF a)) rfl)
    · refine Ob.mk _ [35, 36, 37] 1 rfl rfl (restr_cons qP21 (restr_cons qP21 (restr_cons qP21 restr_nil))) rfl ?_
      simp only [List.getD_cons_zero, List.getD_cons_succ]
      exact GStep.plain rfl (by exact AStepD.kmapUpdate (κ := ByteArray) (v := Fil.av (D.findF a)) tok (str b) rfl rfl rfl rfl rfl rfl rfl rfl qP219 (putK_tmap Fil.av (delK D.step.fs a) (str b) (D.findF a)))
  refine hK _ _ ?_; clear hK K
  refine AW.frame qP38 qP39 ?_
  refine rg fun K hK => ?_
  refine st qP222 <| nt (hK _ _ ?_)
  clear hK K
  refine AW.ret (RetQ.mk (.inr rfl) (retA_tmp rfl qP21 retA_nil) ⟨by rw [hs]; rfl, by rw [hs]; exact ⟨qP219, qP219⟩, (ho.set (.inl (.inr rfl))).set (.inl (.inr rfl))⟩)
end Go.Proofs.YtcomjodfkcnjhaaGreatDoor

/- Walks: a map's keys, collected and sorted; a crash. -/

namespace Go.Proofs.YtcomjodfkcnjhaaGreatDoor
open Go.Ax
open Cel (c)
theorem qK41 {p : Prop} (h : p := by first | exact rfl | with_reducible assumption | exact Lst.one (by assumption)) : p := h
theorem qK42 {p : Prop} (h : p := by first | exact AStepD.buildSlice0 tok rfl rfl rfl rfl (show _ = 1 from rfl) | exact AStepD.buildSlice1 tok rfl rfl rfl rfl (show _ = 1 from rfl) qP21 qP21 qP27 (by decide) qP213 | exact AStepD.buildSlice_seq tok rfl rfl rfl rfl (show _ = 1 from rfl) (map_p qP21 map_n) rfl (by decide) (by decide) rfl qP32 qP213 | exact AStepD.buildSlice tok rfl rfl rfl rfl qP21 (by decide) (by decide) rfl qP213) : p := h
theorem qK43 {p : Prop} (h : p := by first | with_reducible assumption | exact (by assumption : ∀ o, Ax.Src _ _ _ _ _) _ | exact Ax.Src.vec | exact Ax.Src.nil | exact Ax.Src.all qP219 qP27 | exact Ax.Src.sl qP219 qX119) : p := h
theorem qK44 {p : Prop} (h : p := by first | exact List.nil_append _ | exact rfl) : p := h
theorem qK45 {p : Prop} (h : p := by first | exact AStepD.box1 rfl qP21 qK41 | exact AStepD.box rfl qP21 qP213) : p := h
theorem qK46 {p : Prop} (h : p := by exact SD.s rfl rfl rfl qK45) : p := h
set_option linter.unusedSimpArgs false
set_option linter.unusedVariables false
set_option maxRecDepth 20000
open Cel (c)

theorem keys_calls (H : AHeap) (m : Nat) : ACalls Tryz.prog 57 [.map m] H (fun r H' => r = .func (.func 82) [.ptr H.next 0] ∧ H' = H.new (.cells 56 [.map m])) := by
  refine ACalls.of_body tok Tryz.func57 rfl Tryz.ntmps57 (Nat.le_of_ble_eq_true rfl) (fun base => ?_)
  refine rg fun K hK => ?_
  refine st qK46 <| st qP222 <| nt (hK _ _ ?_)
  clear hK K
  refine rg fun K hK => ?_
  refine st (by exact SD.s rfl rfl rfl (by first | exact AStepD.val (AStepD.makeFunc rfl) (congrArg (AV.func _) (amap_cons qP21 amap_nil)) | exact AStepD.makeFunc rfl)) <| st qP222 <| nt (hK _ _ ?_)
  clear hK K
  refine AW.ret (RetQ.mk (.inr rfl) (retA_tmp rfl qP21 retA_nil) ⟨rfl, rfl⟩)
def keyA (es : List (Value × AV)) (i : Nat) : AV := (es[i]?).elim .any fun e => .v e.1
abbrev two (X m : Nat) (q : Nat) : Prop := q = X ∨ q = m
theorem keys_seq (H : AHeap) (X m : Nat) (es : List (Value × AV)) (hX : H.get X = some (.cells 56 [.map m])) (hm : H.get m = some (.map es)) (hXn : X < H.next) (hmn : m < H.next) (hXm : X ≠ m) : ASeqG Tryz.prog 82 [.ptr X 0] es.length (keyA es) (two X m) H := by
  refine ⟨fun q hq => hq.elim (fun h => h ▸ hXn) (fun h => h ▸ hmn), fun L J H1 hL hpL hn hpr hJ hY h0 => ?_⟩
  have hX1 : H1.get X = some (.cells 56 [.map m]) := (hpr X (.inl rfl)).trans hX
  have hm1 : H1.get m = some (.map es) := (hpr m (.inr rfl)).trans hm
  have hmn1 : m < H1.next := by omega
  refine ACalls.of_body tok Tryz.func82 rfl Tryz.ntmps82 (Nat.le_of_ble_eq_true rfl) (fun base => ?_)
  refine rg fun K hK => ?_
  refine st qX22 <| ?_
  refine AL.call rfl rfl rfl (AStep.rng tok rfl rfl rfl rfl hm1 hmn1) ?_; rintro _ H2 ⟨rfl, hr, hk, hn2⟩
  refine nt (hK _ _ ?_)
  clear hK K
  refine AW.block ?_
  refine AW.loop_at (ι := List Nat) (fun ds => [(5, .ptr H1.next 0), (0, .yld L)])
    (fun ds H' => ds.length ≤ es.length ∧ Rng H' m H1.next es ds ∧ J ds H' ∧ H1.next < H'.next ∧ H'.get X = some (.cells 56 [.map m])) (fun ds => es.length - ds.length) [] qP217
    ⟨Nat.zero_le _, hr, hJ [] H1 H2 h0 ⟨fun q hq hp => hk q hq (fun e => hp (.inl (.inr e))), by omega⟩, by omega, (hk X (by omega) hXm).trans hX1⟩ ?_
  rintro ds H3 ⟨hdl, hr3, hj3, hn3, hX3⟩
  refine AW.seq_region (fun K hK => ?_)
  refine AL.call rfl rfl rfl (AStep.nxt rfl rfl hr3 (by omega)) ?_
  rintro _ H4 (⟨hall, rfl, rfl⟩ | ⟨i, e, he, hni, hdn, rfl, hr4, hk4, hn4⟩)
  · refine AL.step rfl rfl rfl qP211 ?_
    refine AL.nil_then (hK _ _ ?_); clear hK K
    refine AW.seq_k (fun K2 hK2 => ?_)
    refine AW.cond _ rfl (fun hc => ?_) (fun hc => ?_)
    · cases hc
    refine AW.rngEnd hr3 ?_
    refine AW.exit ?_
    refine RetQ.mk (.inl rfl) retA_nil ⟨ds, hr3.all hall, hJ ds _ _ hj3 ⟨fun q hq hp => AHeap.get_set_ne _ _ (fun e => hp (.inl (.inr e))), Nat.le_refl _⟩, ?_⟩
    rintro q (rfl | rfl)
    · rw [AHeap.get_set_ne _ _ hXm, hX3, hX]
    · rw [AHeap.get_set_same, hm]
  · refine AL.step rfl rfl rfl qP211 ?_
    refine AL.nil_then (hK _ _ ?_); clear hK K
    have hi : i < es.length := (List.getElem?_eq_some_iff.1 he).1
    have hkey : keyA es i = .v e.1 := by rw [keyA, he]; rfl
    have hj4 := hJ ds H3 H4 hj3 ⟨fun q hq hp => hk4 q (fun e => hp (.inr (by omega))), by omega⟩
    refine AW.seq_k (fun K2 hK2 => ?_)
    refine AW.cond _ rfl (fun hc => ?_) (fun hc => ?_)
    · refine AW.skip ?_
      refine hK2 _ _ ?_; try clear hK2 K2
      refine AW.block ?_
      refine rg fun K hK => ?_
      refine st (by exact SD.s rfl rfl rfl (by exact AStepD.ent rfl rfl hr4 he)) <| st qP220 <| st qP222 <| nt (hK _ _ ?_)
      clear hK K
      have hyl := hY ds i H4 hi hni hj4 (by omega)
      rw [hkey] at hyl
      refine AW.seq_region (fun K hK => ?_)
      refine AL.step rfl rfl rfl qP215 ?_
      refine AL.step rfl rfl rfl qP215 ?_
      refine AL.call rfl rfl rfl (AStep.yield rfl rfl hyl) ?_
      rintro _ H5 ⟨hheld, rfl, hj5⟩
      refine AL.step rfl rfl rfl (by first | exact AStepD.not rfl rfl | exact AStepD.neg rfl rfl (by first | exact IntWalk.i64_in _ (by omega) | exact IntWalk.i64_in _ (by simp only [Bool.or_eq_true, Bool.and_eq_true, Bool.or_eq_false_iff, Bool.and_eq_false_iff, Bool.not_eq_true', Bool.not_eq_false', decide_eq_true_eq, decide_eq_false_iff_not, Int.not_lt, Int.not_le, beq_iff_eq] at *; omega) | exact rfl)) ?_
      refine AL.nil_then (hK _ _ ?_); clear hK K
      refine AW.cond _ rfl (fun hc => ?_) (fun hc => ?_)
      · cases hc
      refine AW.skip ?_
      have h5m := hheld.1 m (.inl (.inr rfl)) (by omega)
      have h5i := hheld.1 H1.next (.inr (by omega)) (by omega)
      have h5X := hheld.1 X (.inl (.inl rfl)) (by omega)
      refine ⟨ds ++ [i], by simp; omega, qP217, by simp; omega, hr4.keep h5i h5m, hj5, Nat.lt_of_lt_of_le (by omega) hheld.2, h5X.trans ((hk4 X (by omega)).trans hX3)⟩
    · cases hc

/-! ### Collected and sorted -/
def pick (ks : List (List UInt8)) (ds : List Nat) : List (List UInt8) := ds.map fun i => ks.getD i []
theorem pick_perm (ks : List (List UInt8)) {ds : List Nat} (h : ds.Perm (List.range ks.length)) : (pick ks ds).Perm ks := by
  have h1 : pick ks (List.range ks.length) = ks := by
    refine List.ext_getElem (by simp [pick]) fun i h1 h2 => ?_
    simp [pick, h2]
  have h2 : (pick ks ds).Perm (pick ks (List.range ks.length)) := h.map _
  rwa [h1] at h2
theorem collect_seq (H : AHeap) (ks : List (List UInt8)) (gf : FuncId) (lb : List AV) (x : Nat → AV) (pr : Nat → Prop) (he : Go.Ax.Enters Tryz.prog gf) (hs : ASeqG Tryz.prog gf lb ks.length x pr H) (hx : ∀ i (h : i < ks.length), x i = strA ks[i]) (hlen : ks.length ≤ 1000) :
    ACalls Tryz.prog 105 [.v (.slice none 0 0), .func (.func gf) lb] H (fun y H' => ∃ l : List (List UInt8), l.Perm ks ∧ Lst 9 H.next H' y l ∧ Keep H H') := by
  refine ACalls.of_body tok Tryz.func105 rfl Tryz.ntmps105 (Nat.le_of_ble_eq_true rfl) (fun base => ?_)
  refine rg fun K hK => ?_
  refine st qK46 <| st qP222 <| nt (hK _ _ ?_)
  clear hK K
  refine AW.seq_k (fun K1 hK1 => ?_)
  refine rg fun K hK => ?_
  refine st qP223 <| nt (hK _ _ ?_)
  clear hK K
  refine AW.block ?_
  have hpr := hs.1
  refine AW.rangeFuncG rfl he (by decide) (hs.later (H1 := H.new (.cells 83 [.v (.slice none 0 0)])) (Nat.le_succ _) fun q hq => AHeap.get_new_ne _ _ (by have := hpr q hq; omega))
    (fun ds H' => ∃ y, H'.get H.next = some (.cells 83 [y]) ∧ Lst 9 (H.next + 3) H' y (pick ks ds) ∧ (∀ q, q < H.next → ¬ pr q → H'.get q = H.get q) ∧ H.next + 1 ≤ H'.next ∧ ds.length ≤ ks.length ∧ ds.Nodup ∧ ∀ i ∈ ds, i < ks.length) ?_ ?_ ?_ ?_
  · rintro ds A B ⟨y, h1, h2, h3, h4, h5⟩ ⟨hs1, hs2⟩
    have hnp : ¬ pr H.next := fun h => by have := hpr _ h; omega
    refine ⟨y, (hs1 _ (by omega) ?_).trans h1, h2.keep (fun D hD hN _ => hs1 D hN ?_) hs2, fun q hq hp => (hs1 q (by omega) ?_).trans (h3 q hq hp), Nat.le_trans h4 hs2, h5⟩
    · rintro ((h | h) | h)
      · exact hnp h
      · simp only [zc] at h; omega
      · simp only [zc] at h; omega
    · rintro ((h | h) | h)
      · have := hpr _ h; omega
      · simp only [zc] at h; omega
      · simp only [zc] at h; omega
    · rintro ((h | h) | h)
      · exact hp h
      · simp only [zc] at h; omega
      · simp only [zc] at h; omega
  · refine ⟨_, AHeap.get_new_same _ _, .nil, fun q hq _ => AHeap.get_new_ne _ _ (by omega), Nat.le_refl _, Nat.zero_le _, .nil, by simp⟩
  · rintro lp ds i H1 hi hni ⟨y, h1, h2, h3, h4, h5, h6, h7⟩ hn1
    simp only [zc] at hn1
    have hy1 := h2.one
    rw [hx i hi]
    refine AW.region ?_
    refine st qP222 <| AL.nil ?_
    refine AW.block ?_
    have hpl : (pick ks ds).length ≤ 1000 := by simp only [pick, List.length_map]; omega
    refine AW.region ?_
    refine st qX22 <| st qP223 <| st (by exact SD.s rfl rfl rfl qK42) <| st (by exact SD.s rfl rfl rfl (by first | exact AStepD.append_lst (bk := 64) tok rfl qP21 (by first | with_reducible assumption | exact Lst.keep (by with_reducible assumption) (fun D _ _ _ => qK14) qX118) rfl rfl rfl rfl rfl rfl (show _ = 1 from rfl) rfl rfl qK43 rfl qP27 qP213 qP27 qP27 qP28 qK44 | exact AStepD.append' (bk := 64) tok rfl rfl rfl rfl rfl rfl rfl rfl (show _ = 1 from rfl) rfl qP219 rfl qP27 qK43 qP27 qP213 qP27 qP27 qP28 qK44 | exact AStepD.append_nil' (bk := 64) tok rfl rfl rfl rfl rfl rfl rfl rfl (show _ = 1 from rfl) rfl qK43 qP27 qP27 qP27 qP27)) <| st0 (by exact ⟨rfl, rfl, qK17⟩) <| AL.nil ?_
    have htn : pick ks (ds ++ [i]) = pick ks ds ++ [ks[i]] := by simp [pick, hi]
    have hnd : (ds ++ [i]).Nodup := List.nodup_append.2 ⟨h6, by simp, by simp; intro a ha e; exact hni (e ▸ ha)⟩
    have hlt : ∀ j ∈ ds ++ [i], j < ks.length := fun j hj => (List.mem_append.1 hj).elim (h7 j) (fun h => by simp at h; rw [h]; exact hi)
    have hln : (ds ++ [i]).length ≤ (List.range ks.length).length := List.Nodup.length_le_of_subset hnd fun j hj => List.mem_range.2 (hlt j hj)
    rw [List.length_range] at hln
    refine ⟨⟨fun q hq hlt => ?_, qX118⟩, _, qP219, Lst.mk qX118 qX118 qP219 (by rw [htn, flat_append, flat_one]; rfl) (by rw [htn, List.length_append]; rfl) rfl, fun q hq hp => Eq.trans qK14 (h3 q hq hp), qX118, hln, hnd, hlt⟩
    have hq : q < H.next ∨ q = H.next + 1 ∨ q = H.next + 2 := by
      rcases hq with (h | h) | h
      · exact .inl (hpr q h)
      · simp only [zc] at h; omega
      · simp only [zc] at h; omega
    have hq2 : q < H.next + 3 := by omega
    have hq3 : q ≠ H.next := by omega
    exact qK14
  · rintro ds H1 hperm ⟨y, h1, h2, h3, h4, h5, h6, h7⟩ hn1 hback
    have hy1 := h2.one
    refine hK1 _ _ ?_; clear hK1 K1
    refine rg fun K hK => ?_
    refine st qX22 <| st qP222 <| nt (hK _ _ ?_)
    clear hK K
    refine AW.ret (RetQ.mk (.inr rfl) (retA_tmp rfl qP21 retA_nil) ⟨_, pick_perm ks hperm, h2.down (by omega), by omega, fun q hq => ?_⟩)
    by_cases hp : pr q
    · exact (hback q hp).trans (AHeap.get_new_ne _ _ (by omega))
    · exact h3 q hq hp
theorem collect_calls (H : AHeap) (ks : List (List UInt8)) (gf : FuncId) (lb : List AV) (x : Nat → AV) (pr : Nat → Prop) (he : Go.Ax.Enters Tryz.prog gf) (hs : ASeqG Tryz.prog gf lb ks.length x pr H) (hx : ∀ i (h : i < ks.length), x i = strA ks[i]) (hlen : ks.length ≤ 1000) :
    ACalls Tryz.prog 80 [.func (.func gf) lb] H (fun y H' => ∃ l : List (List UInt8), l.Perm ks ∧ Lst 9 H.next H' y l ∧ Keep H H') := by
  refine ACalls.of_body tok Tryz.func80 rfl Tryz.ntmps80 (Nat.le_of_ble_eq_true rfl) (fun base => ?_)
  refine rg fun K hK => ?_
  refine st qP222 <| nt (hK _ _ ?_)
  clear hK K
  refine rg fun K hK => ?_
  refine st qP223 <| ?_
  refine AL.call rfl rfl rfl (AStep.callf rfl en105 (collect_seq _ ks gf lb x pr he hs hx hlen)) ?_; rintro y H2 ⟨l, h1, h2, h3⟩
  refine st qP222 <| nt (hK _ _ ?_)
  clear hK K
  refine AW.ret (RetQ.mk (.inr rfl) (retA_tmp rfl qP21 retA_nil) ⟨l, h1, h2, h3⟩)
theorem flat_strs (l : List (List UInt8)) : flat l = encL encStr l := by
  rw [encL, List.map_map]
  exact (List.map_eq_flatMap ..).symm
theorem sorts_calls (H : AHeap) (zs : List (List UInt8)) (D : Nat) (hD : H.get D = some (.cells 9 (flat zs))) (hl : zs.length ≤ 1000000) : ACalls Tryz.prog 81 [.sl D 0 zs.length 1] H (fun r H' => r = .tup [] ∧ H' = H.set D (.cells 9 (flat (zs.mergeSort fun x y => decide (x ≤ y))))) := by
  rw [flat_strs]
  exact ACalls.enc_row (Ret := fun u _ _ => u = .tuple #[]) (by rw [hD, flat_strs]) (List.length_mergeSort zs) (fun w b cap _ _ hH hb => (Any.slices_Sort_string lays190 b 0 cap zs w hH hb (by omega)).mono fun e w' ⟨he, n, os, hw⟩ => ⟨_, n, os, he, hw, rfl⟩)
    (fun ρ I B cap u _ _ _ _ hu => by subst hu; exact .tup (vs := []) rfl (by simp))
theorem sortn_calls (H : AHeap) : ACalls Tryz.prog 81 [.v (.slice none 0 0)] H (fun r H' => r = .tup [] ∧ H' = H) := by
  intro ρ I w vs hc ha
  obtain ⟨u0, rfl⟩ : ∃ u0, vs = [u0] := by
    have := ha.1
    match vs, this with
    | [a], _ => exact ⟨a, rfl⟩
  have h0 := ha.2 0 _ u0 rfl rfl
  cases h0
  refine Calls.mono (Any.slices_Sort_string_none lays190 none 0 w) ?_
  rintro e w' ⟨rfl, rfl⟩
  exact ⟨_, _, ρ, I, H, rfl, ⟨rfl, rfl⟩, .tup (vs := []) rfl (by simp), hc, .refl _ _ _ _⟩
theorem nil_vecS : SubV (.v (.slice none 0 0)) (vecA ([] : List (List UInt8))) := by
  intro ρ I u h
  cases h
  exact .vec0
theorem sorted_calls (H : AHeap) (ks : List (List UInt8)) (gf : FuncId) (lb : List AV) (x : Nat → AV) (pr : Nat → Prop) (he : Go.Ax.Enters Tryz.prog gf) (hs : ASeqG Tryz.prog gf lb ks.length x pr H) (hx : ∀ i (h : i < ks.length), x i = strA ks[i]) (hlen : ks.length ≤ 1000) :
    ACalls Tryz.prog 56 [.func (.func gf) lb] H (fun r H' => ∃ l : List (List UInt8), l.Perm ks ∧ r = vecA l ∧ Keep H H') := by
  refine ACalls.of_body tok Tryz.func56 rfl Tryz.ntmps56 (Nat.le_of_ble_eq_true rfl) (fun base => ?_)
  refine rg fun K hK => ?_
  refine st qP222 <| nt (hK _ _ ?_)
  clear hK K
  refine rg fun K hK => ?_
  refine st qP223 <| ?_
  refine AL.call rfl rfl rfl (AStep.callf rfl en80 (collect_calls _ ks gf lb x pr he hs hx hlen)) ?_; rintro y H2 ⟨l, h1, h2, h3⟩
  refine st qP222 <| nt (hK _ _ ?_)
  clear hK K
  have hll : l.length ≤ 1000 := by rw [h1.length_eq]; exact hlen
  cases h2 with
  | nil =>
    refine rg fun K hK => ?_
    refine st qP223 <| st (by exact SD.s rfl rfl rfl (by exact AStepD.callf rfl en81 rfl (sortn_calls _))) <| nt (hK _ _ ?_)
    clear hK K
    refine rg fun K hK => ?_
    refine st qP223 <| st (by exact SD.s rfl rfl rfl (by exact AStepD.weak (AStepD.assign' rfl rfl) nil_vecS)) <| nt (hK _ _ ?_)
    clear hK K
    refine AW.ret (RetQ.mk (.inr rfl) (retA_tmp rfl qP21 retA_nil) ⟨[], h1, rfl, h3⟩)
  | @sl D _ hD hN hg =>
    refine rg fun K hK => ?_
    refine st qP223 <| st (by exact SD.s rfl rfl rfl (by exact AStepD.callf rfl en81 rfl (sorts_calls _ l D hg (by omega)))) <| nt (hK _ _ ?_)
    clear hK K
    refine rg fun K hK => ?_
    refine st qP223 <| st qP222 <| nt (hK _ _ ?_)
    clear hK K
    have hfl : ∀ z : List (List UInt8), (flat z).length = z.length := fun z => (flat_length z).trans (Nat.mul_one _)
    have hml := List.length_mergeSort (le := fun x y : List UInt8 => decide (x ≤ y)) l
    refine AW.ret (RetQ.frz (.inr rfl) (retA_tmp rfl qP21 retA_nil) (l := D) (t := 9) (cs := flat (l.mergeSort fun x y => decide (x ≤ y))) qP219 (.sl (by rw [hfl, hml]; show 0 + l.length * 1 ≤ _; omega)) ⟨l.mergeSort fun x y => decide (x ≤ y), (List.mergeSort_perm l _).trans h1, ?_, (h3.set hD).del hD⟩)
    rw [List.drop_zero, List.take_of_length_le (by rw [hfl, hml]; show l.length ≤ l.length * 1; omega), vecA, hml]
end Go.Proofs.YtcomjodfkcnjhaaGreatDoor

/- Walks: a crash. -/

namespace Go.Proofs.YtcomjodfkcnjhaaGreatDoor
open Go.Ax
open Cel (c)
set_option linter.unusedSimpArgs false
set_option linter.unusedVariables false
set_option maxRecDepth 20000
open Cel (c)

def Cut (f g : Fil) : Prop := g = f ∨ f.safe = false ∧ ∃ k, k ≤ f.b.length ∧ g = ⟨f.b.take k, true⟩
structure Crashed (D D' : Dk) (ns : List ByteArray) : Prop where
  keys : keysK D'.fs = keysK D.fs
  room : D'.room = D.room
  get : ∀ n f, getK D.fs n = some f → ∃ g, getK D'.fs n = some g ∧ Cut f g ∧ (n ∈ ns → g.safe = true)
theorem kN_eq (x : Int) (n : Nat) : AV.v (.int .i64 (if (n : Int) < (if x < 0 then 0 else x) then (n : Int) else (if x < 0 then 0 else x))) = .v (.int .i64 ((min x.toNat n : Nat) : Int)) := by
  congr 2
  split <;> split <;> omega
theorem take_vec (l : List UInt8) {k : Nat} (h : k ≤ l.length) : AV.vec k ((flat l).take (k * 1)) = vecA (l.take k) := by
  rw [vecA, List.length_take, Nat.min_eq_left h]
  congr 1
  simp only [flat, Nat.mul_one]
  induction l generalizing k with
  | nil => simp
  | cons a r ih => cases k with
    | zero => rfl
    | succ k => simp only [List.flatMap_cons, List.take_succ_cons]; exact congrArg (_ :: ·) (ih (by simpa using h))
def kN (x : Int) (n : Nat) : Nat := min x.toNat n
theorem kN_le (x : Int) (n : Nat) : kN x n ≤ n := Nat.min_le_right _ _
theorem Crashed.refl (D : Dk) : Crashed D D [] := ⟨rfl, rfl, fun n f h => ⟨f, h, .inl rfl, by simp⟩⟩
theorem Crashed.next {D D' : Dk} {ns : List ByteArray} (h : Crashed D D' ns) {n : ByteArray} {f g : Fil} (hf : getK D'.fs n = some f) (hg : Cut f g) (hs : g.safe = true) : Crashed D (D'.put n g) (ns ++ [n]) := by
  have hm : n ∈ keysK D'.fs := by
    by_cases hx : n ∈ keysK D'.fs
    · exact hx
    · rw [getK_none.2 hx] at hf; cases hf
  refine ⟨by rw [Dk.put, keys_put, if_pos hm]; exact h.keys, h.room, fun x f0 hx => ?_⟩
  obtain ⟨g0, h1, h2, h3⟩ := h.get x f0 hx
  by_cases e : x = n
  · subst e
    rw [h1] at hf; cases hf
    refine ⟨g, getK_put_same _ _ _, ?_, fun _ => hs⟩
    rcases h2 with rfl | ⟨q1, k, q2, rfl⟩
    · exact hg
    · rcases hg with rfl | ⟨q3, _⟩
      · exact .inr ⟨q1, k, q2, rfl⟩
      · cases q3
  · refine ⟨g0, (getK_put_ne _ _ e).trans h1, h2, fun hx => ?_⟩
    rcases List.mem_append.1 hx with hx | hx
    · exact h3 hx
    · simp at hx; exact absurd hx e

def Dk.names (D : Dk) : List (List UInt8) := D.fs.map fun p => p.1.data.toList
theorem names_key (D : Dk) (i : Nat) (h : i < D.names.length) : keyA D.es i = strA D.names[i] := by
  have hi : i < D.fs.length := by simpa [Dk.names] using h
  simp only [keyA, Dk.es, kmap, tmap, List.map_map, List.getElem?_map, List.getElem?_eq_getElem hi, Option.map_some, Option.elim, Dk.names, List.getElem_map, strA]
  rw [← str_of]
  rfl
theorem names_mem {D : Dk} {n : List UInt8} (h : n ∈ D.names) : str n ∈ keysK D.fs := by
  obtain ⟨p, hp, rfl⟩ := List.mem_map.1 h
  rw [← str_of]
  exact List.mem_map.2 ⟨p, hp, rfl⟩

set_option maxHeartbeats 1000000 in
theorem crash_calls (H : AHeap) (d m : Nat) (D : Dk) (ks : List Int) (h : DkAt H d m D) (hok : D.Ok) (hks : ks.length ≤ 1000) :
    ACalls Tryz.prog 22 [.ptr d 0, vecA ks] H (fun r H' => ∃ D', DkAt H' d m { D' with left := -1, down := false } ∧ Crashed D D' (keysK D.fs) ∧ Only (both d m) H H') := by
  have hd := h.d
  have hm := h.m
  have hne := h.ne
  refine ACalls.lts fun hlt => ?_
  have hdl := hlt _ _ hd
  have hml := hlt _ _ hm
  have hes : D.es.length = D.names.length := by simp [Dk.es, kmap, tmap, Dk.names]
  have hfl := hok.1
  have hnl : D.names.length ≤ 2 := by simpa [Dk.names] using hfl
  refine ACalls.of_body tok Tryz.func22 rfl Tryz.ntmps22 (Nat.le_of_ble_eq_true rfl) (fun base => ?_)
  refine rg fun K hK => ?_
  refine st qP222 <| nt (hK _ _ ?_)
  clear hK K
  refine AW.seq_k (fun K1 hK1 => ?_)
  refine rg fun K hK => ?_
  refine st qP223 <| st qK11 <| st qX21 <| st qX22 <| ?_
  refine AL.call rfl rfl rfl (AStep.callf rfl en57 (keys_calls _ m)) ?_; rintro _ H1 ⟨rfl, rfl⟩
  refine AL.call rfl rfl rfl (AStep.callf rfl en56 (sorted_calls _ D.names 82 [.ptr H.next 0] (keyA D.es) (two H.next m) en82 (hes ▸ keys_seq _ H.next m D.es qP219 qP219 qX118 qX118 (by omega)) (fun i hi => names_key D i hi) (by omega))) ?_; rintro _ H2 ⟨l, hl, rfl, hk2⟩
  refine st (by exact SD.s rfl rfl rfl (by exact AStepD.len_sl tok rfl rfl .vec rfl rfl)) <| st qP223 <| nt (hK _ _ ?_)
  clear hK K
  have hll : l.length ≤ 2 := by rw [hl.length_eq]; exact hnl
  have hd2 : H2.get d = some (.cells 58 (D.cs m)) := (hk2.2 d qX118).trans qP219
  have hm2 : H2.get m = some (.map D.es) := (hk2.2 m qX118).trans qP219
  have ho2 : Only (both d m) H H2 := (Only.keep qP24).trans (Only.keep hk2)
  have hn2 := hk2.1
  simp only [zc] at hn2
  refine AW.block ?_
  refine AW.loop_at (ι := Nat × Nat) (fun x => [(16, .v (.int .i64 (x.1 : Nat))), (15, .v (.int .i64 (l.length : Nat))), (14, vecA l), (4, .v (.int .i64 (x.2 : Nat))), (1, vecA ks), (0, .ptr d 0)])
    (fun x H' => x.1 ≤ l.length ∧ x.2 ≤ x.1 ∧ (∃ E, DkAt H' d m E ∧ Crashed D E ((l.take x.1).map str)) ∧ Only (both d m) H H') (fun x => l.length - x.1) (0, 0) qP217 ⟨Nat.zero_le _, Nat.le_refl _, ⟨D, ⟨hd2, hm2⟩, .refl D⟩, ho2⟩ ?_
  rintro ⟨j, a⟩ H3 ⟨hj, ha, ⟨E, hE, hcr⟩, ho3⟩
  have hj : j ≤ l.length := hj
  have ha : a ≤ j := ha
  have hn3 := ho3.nx
  have hEd := hE.d
  have hEm := hE.m
  refine rg fun K hK => ?_
  refine st qX138 <| nt (hK _ _ ?_)
  clear hK K
  refine AW.seq_k (fun K2 hK2 => ?_)
  refine AW.cond _ rfl (fun hc => ?_) (fun hc => ?_)
  · (try simp only [Bool.or_eq_true, Bool.and_eq_true, Bool.or_eq_false_iff, Bool.and_eq_false_iff, Bool.not_eq_true', Bool.not_eq_false', decide_eq_true_eq, decide_eq_false_iff_not, Int.not_lt, Int.not_le] at hc)
    have hjl : j < l.length := by omega
    have hmem : str l[j] ∈ keysK D.fs := names_mem (hl.subset (List.getElem_mem hjl))
    obtain ⟨f, hf⟩ : ∃ f, getK E.fs (str l[j]) = some f := by
      cases hk : getK E.fs (str l[j]) with
      | none => exact absurd (hcr.keys ▸ hmem) (getK_none.1 hk)
      | some f => exact ⟨f, rfl⟩
    have hgot : E.got (str l[j]) = f := by rw [Dk.got, hf]; rfl
    have hlat : (flat l)[j * 1]? = some (strA l[j]) := flat_getc l j 0 hjl Nat.zero_lt_one
    refine AW.skip ?_
    refine hK2 _ _ ?_; try clear hK2 K2
    refine AW.seq_k (fun K3 hK3 => ?_)
    refine AW.block ?_
    refine rg fun K hK => ?_
    refine st (by exact SD.s rfl rfl rfl qP218) <| st qX22 <| st qP222 <| nt (hK _ _ ?_)
    clear hK K
    refine rg fun K hK => ?_
    refine st qP223 <| st qK11 <| st qX21 <| st qX22 <| st qP223 <| st (by exact SD.s rfl rfl rfl (by exact AStepD.val (look_file1 hE rfl rfl rfl) (congrArg Fil.av hgot))) <| st qP43 <| st0 (by exact ⟨rfl, rfl, qK17⟩) <| nt (hK _ _ ?_)
    clear hK K
    refine AW.cut (fun T' H' => ∃ (g : Fil) (a' : Nat), a' ≤ j + 1 ∧ Cut f g ∧ g.safe = true ∧ Keep H3 H' ∧ H'.get H3.next = some (.cells 82 [vecA g.b, .v (.bool g.safe)]) ∧ H3.next < H'.next ∧ SubT T' [(16, .v (.int .i64 (j : Nat))), (15, .v (.int .i64 (l.length : Nat))), (14, vecA l), (7, .ptr H3.next 0), (6, strA l[j]), (4, .v (.int .i64 (a' : Nat))), (1, vecA ks), (0, .ptr d 0)]) ?_ ?_
    · refine rg fun K hK => ?_
      refine st qX213 <| st qX22 <| st (by exact SD.s rfl rfl rfl (by first | exact AStepD.not rfl rfl | exact AStepD.neg rfl rfl (by first | exact IntWalk.i64_in _ (by omega) | exact IntWalk.i64_in _ (by simp only [Bool.or_eq_true, Bool.and_eq_true, Bool.or_eq_false_iff, Bool.and_eq_false_iff, Bool.not_eq_true', Bool.not_eq_false', decide_eq_true_eq, decide_eq_false_iff_not, Int.not_lt, Int.not_le, beq_iff_eq] at *; omega) | exact rfl))) <| nt (hK _ _ ?_)
      clear hK K
      refine AW.cond _ rfl (fun hc => ?_) (fun hc => ?_)
      · have hfs : f.safe = false := by simpa using hc
        refine rg fun K hK => ?_
        refine st qP222 <| nt (hK _ _ ?_)
        clear hK K
        refine AW.cut (fun T' H' => ∃ k : Nat, k ≤ f.b.length ∧ Keep H3 H' ∧ H'.get H3.next = some (.cells 82 [vecA f.b, .v (.bool f.safe)]) ∧ H3.next < H'.next ∧ SubT T' [(8, .v (.int .i64 (k : Nat))), (16, .v (.int .i64 (j : Nat))), (15, .v (.int .i64 (l.length : Nat))), (14, vecA l), (7, .ptr H3.next 0), (6, strA l[j]), (4, .v (.int .i64 (a : Nat))), (1, vecA ks), (0, .ptr d 0)]) ?_ ?_
        · refine rg fun K hK => ?_
          refine st qP223 <| st qP223 <| st (by exact SD.s rfl rfl rfl (by exact AStepD.len_sl tok rfl rfl .vec rfl rfl)) <| st qX138 <| nt (hK _ _ ?_)
          clear hK K
          refine AW.cond _ rfl (fun hc => ?_) (fun hc => ?_)
          · (try simp only [Bool.or_eq_true, Bool.and_eq_true, Bool.or_eq_false_iff, Bool.and_eq_false_iff, Bool.not_eq_true', Bool.not_eq_false', decide_eq_true_eq, decide_eq_false_iff_not, Int.not_lt, Int.not_le] at hc)
            have hak : a < ks.length := by omega
            apply AW.draw mixed [_, _, _, _, _, _, _, _, _, _] [] [_] [(0, 0), (1, 0), (2, 0), (3, 0), (4, 0), (5, 0), (6, 0), (7, 0), (8, 0), (9, 0)] rfl rfl rfl qP33
            · refine ⟨?_, ?_, ?_, ?_, ?_, ?_, ?_, ?_, ?_, ?_⟩
              · refine Ob.mk _ [1] 0 rfl rfl (restr_cons qP21 restr_nil) rfl ?_
                simp only [List.getD_cons_zero, List.getD_cons_succ]
                exact GStep.plain rfl qP215
              · refine Ob.mk _ [4] 0 rfl rfl (restr_cons qP21 restr_nil) rfl ?_
                simp only [List.getD_cons_zero, List.getD_cons_succ]
                exact GStep.plain rfl qP215
              · refine Ob.mk _ [33, 34] 0 rfl rfl (restr_cons qP21 (restr_cons qP21 restr_nil)) rfl ?_
                simp only [List.getD_cons_zero, List.getD_cons_succ]
                exact GStep.plain rfl qP218
              · refine Ob.mk _ [35] 0 rfl rfl (restr_cons qP21 restr_nil) rfl ?_
                simp only [List.getD_cons_zero, List.getD_cons_succ]
                exact GStep.plain rfl qP34
              · refine Ob.mk _ [36] 0 rfl rfl (restr_cons qP21 restr_nil) rfl ?_
                simp only [List.getD_cons_zero, List.getD_cons_succ]
                exact GStep.plain rfl (by exact AStepD.max2 rfl rfl rfl rfl)
              · refine Ob.mk _ [7] 0 rfl rfl (restr_cons qP21 restr_nil) rfl ?_
                simp only [List.getD_cons_zero, List.getD_cons_succ]
                exact GStep.plain rfl qP321
              · refine Ob.mk _ [38] 0 rfl rfl (restr_cons qP21 restr_nil) rfl ?_
                simp only [List.getD_cons_zero, List.getD_cons_succ]
                exact GStep.plain rfl qP34
              · refine Ob.mk _ [39] 0 rfl rfl (restr_cons qP21 restr_nil) rfl ?_
                simp only [List.getD_cons_zero, List.getD_cons_succ]
                exact GStep.plain rfl (by exact AStepD.len_sl tok rfl rfl .vec rfl rfl)
              · refine Ob.mk _ [37, 40] 0 rfl rfl (restr_cons qP21 (restr_cons qP21 restr_nil)) rfl ?_
                simp only [List.getD_cons_zero, List.getD_cons_succ]
                exact GStep.plain rfl (by exact AStepD.val (AStepD.min2 rfl rfl rfl rfl) (y := .v (.int .i64 ((kN ks[a] f.b.length : Nat) : Int))) (kN_eq _ _))
              · refine Ob.mk _ [41] 0 rfl rfl (restr_cons qP21 restr_nil) rfl ?_
                simp only [List.getD_cons_zero, List.getD_cons_succ]
                exact GStep.plain rfl qP214
            simp only [List.length_cons, List.length_nil, Nat.zero_add, Nat.reduceAdd, List.getD_cons_zero, List.getD_cons_succ]
            refine ⟨kN ks[a] f.b.length, kN_le _ _, qP24, qP219, qX118, qP217⟩
          · refine AW.skip ?_
            refine ⟨0, Nat.zero_le _, qP24, qP219, qX118, qP217⟩
        rintro T' H4 ⟨k, hkl, hk4, hx4, hn4, hs⟩
        refine AW.sub hs ?_
        refine rg fun K hK => ?_
        refine st qP223 <| st (by exact SD.s rfl rfl rfl (by first | exact AStepD.add rfl rfl rfl (by first | exact IntWalk.i64_in _ (by omega) | exact IntWalk.i64_in _ (by simp only [Bool.or_eq_true, Bool.and_eq_true, Bool.or_eq_false_iff, Bool.and_eq_false_iff, Bool.not_eq_true', Bool.not_eq_false', decide_eq_true_eq, decide_eq_false_iff_not, Int.not_lt, Int.not_le, beq_iff_eq] at *; omega) | exact rfl) | exact AStepD.str_add rfl rfl rfl (by omega))) <| st qP222 <| nt (hK _ _ ?_)
        clear hK K
        refine AW.region ?_
        refine st qX21 <| st qX22 <| st qP223 <| st qP223 <| st (by exact SD.s rfl rfl rfl (by exact AStepD.val (AStepD.slice3_vec (h := k) tok rfl rfl rfl rfl rfl rfl rfl hkl) (y := vecA (f.b.take k)) (take_vec _ hkl))) <| st (by exact SD.s rfl rfl rfl (by exact AStepD.val (AStepD.build tok rfl rfl rfl (by decide) rfl (show ∀ p ∈ [((0 : Nat), vecA (f.b.take k)), (1, .v (.bool true))], ∀ x ∈ p.2.cells, x.one = true from by simp [AV.cells, AV.one, Value.oneCell'])) (show _ = Fil.av ⟨f.b.take k, true⟩ from rfl))) <| st0 (by exact ⟨rfl, rfl, qK17⟩) <| AL.nil ?_
        refine ⟨⟨f.b.take k, true⟩, a + 1, by omega, .inr ⟨hfs, k, hkl, rfl⟩, rfl, hk4.set (Nat.le_refl _), qP219, hn4, qP217⟩
      · have hfs : f.safe = true := by simpa using hc
        refine AW.skip ?_
        refine ⟨f, a, by omega, .inl rfl, hfs, qP24, qP219, qX118, qP217⟩
    rintro T' H4 ⟨g, a', ha', hcut, hsafe, hk4, hx4, hn4, hs⟩
    refine AW.sub hs ?_
    have hdl3 : d < H3.next := by omega
    have hml3 : m < H3.next := by omega
    have hd4 : H4.get d = some (.cells 58 (E.cs m)) := (hk4.2 d hdl3).trans hEd
    have hm4 : H4.get m = some (.map E.es) := (hk4.2 m hml3).trans hEm
    apply AW.draw mixed [_, _, _, _, _, _, _] [6] [_, _] [(0, 0), (1, 0), (2, 0), (3, 0), (4, 0), (5, 0), (6, 0)] rfl rfl rfl qP33
    · refine ⟨?_, ?_, ?_, ?_, ?_, ?_, ?_⟩
      · refine Ob.mk _ [0] 0 rfl rfl (restr_cons qP21 restr_nil) rfl ?_
        simp only [List.getD_cons_zero, List.getD_cons_succ]
        exact GStep.plain rfl qP215
      · refine Ob.mk _ [50] 0 rfl rfl (restr_cons qP21 restr_nil) rfl ?_
        simp only [List.getD_cons_zero, List.getD_cons_succ]
        exact GStep.plain rfl qP35
      · refine Ob.mk _ [51] 0 rfl rfl (restr_cons qP21 restr_nil) rfl ?_
        simp only [List.getD_cons_zero, List.getD_cons_succ]
        exact GStep.plain rfl qP321
      · refine Ob.mk _ [52] 0 rfl rfl (restr_cons qP21 restr_nil) rfl ?_
        simp only [List.getD_cons_zero, List.getD_cons_succ]
        exact GStep.plain rfl qP34
      · refine Ob.mk _ [6] 0 rfl rfl (restr_cons qP21 restr_nil) rfl ?_
        simp only [List.getD_cons_zero, List.getD_cons_succ]
        exact GStep.plain rfl qP215
      · refine Ob.mk _ [7] 0 rfl rfl (restr_cons qP21 restr_nil) rfl ?_
        simp only [List.getD_cons_zero, List.getD_cons_succ]
        exact GStep.plain rfl (by exact AStepD.val (AStepD.load_agg tok rfl rfl rfl qP219 rfl (show _ = 2 from rfl) qX119 rfl) (y := Fil.av g) rfl)
      · refine Ob.mk _ [53, 54, 55] 1 rfl rfl (restr_cons qP21 (restr_cons qP21 (restr_cons qP21 restr_nil))) rfl ?_
        simp only [List.getD_cons_zero, List.getD_cons_succ]
        exact GStep.plain rfl (by exact AStepD.kmapUpdate (κ := ByteArray) (v := Fil.av g) tok (str l[j]) rfl rfl rfl rfl rfl rfl rfl rfl qP219 (putK_tmap Fil.av E.fs (str l[j]) g))
    refine hK3 _ _ ?_; try clear hK3 K3
    simp only [List.length_cons, List.length_nil, Nat.zero_add, Nat.reduceAdd, List.getD_cons_zero, List.getD_cons_succ]
    refine AW.region ?_
    refine st (by exact SD.s rfl rfl rfl (by first | exact AStepD.add rfl rfl rfl (by first | exact IntWalk.i64_in _ (by omega) | exact IntWalk.i64_in _ (by simp only [Bool.or_eq_true, Bool.and_eq_true, Bool.or_eq_false_iff, Bool.and_eq_false_iff, Bool.not_eq_true', Bool.not_eq_false', decide_eq_true_eq, decide_eq_false_iff_not, Int.not_lt, Int.not_le, beq_iff_eq] at *; omega) | exact rfl) | exact AStepD.str_add rfl rfl rfl (by omega))) <| st qP223 <| AL.nil ?_
    refine ⟨(j + 1, a'), by show l.length - (j + 1) < l.length - j; omega, qP217, by show j + 1 ≤ l.length; omega, ha', ⟨E.put (str l[j]) g, ⟨qP219, qP219⟩, ?_⟩, (ho3.trans (Only.keep hk4)).set (.inl (.inr rfl))⟩
    show Crashed D (E.put (str l[j]) g) ((l.take (j + 1)).map str)
    rw [List.take_succ_eq_append_getElem hjl, List.map_append]
    exact hcr.next hf hcut hsafe
  · (try simp only [Bool.or_eq_true, Bool.and_eq_true, Bool.or_eq_false_iff, Bool.and_eq_false_iff, Bool.not_eq_true', Bool.not_eq_false', decide_eq_true_eq, decide_eq_false_iff_not, Int.not_lt, Int.not_le] at hc)
    have hjl : j = l.length := by omega
    refine AW.exit ?_
    refine hK1 _ _ ?_; try clear hK1 K1
    refine AW.region ?_
    refine st qP223 <| st qP223 <| st qK11 <| st qX214 <| st0 (by exact ⟨rfl, rfl, qK17⟩) <| st qK11 <| st qK19 <| st0 (by exact ⟨rfl, rfl, qK17⟩) <| AL.nil ?_
    refine RetQ.mk (.inl rfl) retA_nil ⟨E, ?_, ?_, (ho3.set (.inl (.inl rfl))).set (.inl (.inl rfl))⟩
    · exact ⟨qP219, qP219⟩
    refine ⟨hcr.keys, hcr.room, fun n f hf => ?_⟩
    obtain ⟨g, h1, h2, h3⟩ := hcr.get n f hf
    refine ⟨g, h1, h2, fun hn => h3 ?_⟩
    show n ∈ (l.take j).map str
    rw [hjl, List.take_length]
    obtain ⟨p, hp, rfl⟩ := List.mem_map.1 hn
    exact List.mem_map.2 ⟨p.1.data.toList, hl.symm.subset (List.mem_map.2 ⟨p, hp, rfl⟩), (str_of _).symm⟩
end Go.Proofs.YtcomjodfkcnjhaaGreatDoor
