/- Walks: right states saved one behind the other are loaded. -/
import Derived.Test.YtcomjodfkcnjhaaGreatDoorCK2
set_option linter.unusedSimpArgs false
set_option linter.unusedVariables false
namespace Go.Proofs.YtcomjodfkcnjhaaGreatDoor
open Go.Ax
open Cel (c)
theorem qK91 {p : Prop} (h : p := by exact AStepD.lss rfl rfl rfl) : p := h
theorem qK92 {p : Prop} (h : p := by exact AStepD.gtr rfl rfl rfl) : p := h
theorem qK93 {p : Prop} (h : p := by first | exact AStepD.neq rfl rfl rfl | exact AStepD.str_neq rfl rfl rfl | exact (AStepD.ptr_nil tok (.inl ⟨_, _, rfl⟩) rfl rfl rfl).2 rfl | exact (AStepD.nil_nil tok rfl rfl rfl rfl).2 rfl | exact (AStepD.bool_eq tok rfl rfl rfl rfl).2 rfl | exact (AStepD.ptr_same tok rfl rfl rfl rfl rfl).2 rfl | exact (AStepD.iface_nil tok rfl rfl rfl rfl).2 rfl | exact (AStepD.nilIface_nil tok rfl rfl rfl rfl).2 rfl) : p := h
theorem qK94 {p : Prop} (h : p := by exact (fun hb => by (repeat (first | apply UW.yes rfl (gpf hb) | apply UW.no)); exact UW.nil qK727)) : p := h
theorem qK95 {p : Prop} (h : p := by exact (fun _ hb => by (repeat (first | apply UW.yes rfl (gpf hb) | apply UW.no)); exact UW.nil qK727)) : p := h
theorem qK96 {p : Prop} (h : p := by first | exact GW.yes rfl rfl rfl rfl rfl rfl rfl (by fail) | exact GW.no rfl rfl rfl rfl rfl rfl rfl | exact GW.none rfl rfl rfl rfl rfl | exact GW.may rfl rfl rfl rfl rfl rfl (fun hb => by (repeat (first | apply UW.yes rfl (gpf hb) | apply UW.no)); exact UW.nil (by fail)) | exact GW.may2 rfl rfl rfl rfl rfl rfl (fun _ hb => by (repeat (first | apply UW.yes rfl (gpf hb) | apply UW.no)); exact UW.nil (by fail))) : p := h
theorem qK97 {p : Prop} (h : p := by exact (fun hb => by (repeat (first | apply UW.yes rfl (gpf hb) | apply UW.no)); exact UW.nil qK724)) : p := h
theorem qK98 {p : Prop} (h : p := by exact (fun _ hb => by (repeat (first | apply UW.yes rfl (gpf hb) | apply UW.no)); exact UW.nil qK724)) : p := h
theorem qK99 {p : Prop} (h : p := by first | exact GW.yes rfl rfl rfl rfl rfl rfl rfl qK91 | exact GW.no rfl rfl rfl rfl rfl rfl rfl | exact GW.none rfl rfl rfl rfl rfl | exact GW.may rfl rfl rfl rfl rfl rfl (fun hb => by (repeat (first | apply UW.yes rfl (gpf hb) | apply UW.no)); exact UW.nil qK91) | exact GW.may2 rfl rfl rfl rfl rfl rfl (fun _ hb => by (repeat (first | apply UW.yes rfl (gpf hb) | apply UW.no)); exact UW.nil qK91)) : p := h
theorem qK910 {p : Prop} (h : p := by first | exact GW.yes rfl rfl rfl rfl rfl rfl rfl qK92 | exact GW.no rfl rfl rfl rfl rfl rfl rfl | exact GW.none rfl rfl rfl rfl rfl | exact GW.may rfl rfl rfl rfl rfl rfl (fun hb => by (repeat (first | apply UW.yes rfl (gpf hb) | apply UW.no)); exact UW.nil qK92) | exact GW.may2 rfl rfl rfl rfl rfl rfl (fun _ hb => by (repeat (first | apply UW.yes rfl (gpf hb) | apply UW.no)); exact UW.nil qK92)) : p := h
theorem qK911 {p : Prop} (h : p := by first | exact GW.yes rfl rfl rfl rfl rfl rfl rfl qK93 | exact GW.no rfl rfl rfl rfl rfl rfl rfl | exact GW.none rfl rfl rfl rfl rfl | exact GW.may rfl rfl rfl rfl rfl rfl (fun hb => by (repeat (first | apply UW.yes rfl (gpf hb) | apply UW.no)); exact UW.nil qK93) | exact GW.may2 rfl rfl rfl rfl rfl rfl (fun _ hb => by (repeat (first | apply UW.yes rfl (gpf hb) | apply UW.no)); exact UW.nil qK93)) : p := h
theorem qK912 {p : Prop} (h : p := by first | exact GW.yes rfl rfl rfl rfl rfl rfl rfl qK727 | exact GW.no rfl rfl rfl rfl rfl rfl rfl | exact GW.none rfl rfl rfl rfl rfl | exact GW.may rfl rfl rfl rfl rfl rfl qK94 | exact GW.may2 rfl rfl rfl rfl rfl rfl qK95) : p := h
theorem qK913 {p : Prop} (h : p := by first | exact GW.yes rfl rfl rfl rfl rfl rfl rfl qK724 | exact GW.no rfl rfl rfl rfl rfl rfl rfl | exact GW.none rfl rfl rfl rfl rfl | exact GW.may rfl rfl rfl rfl rfl rfl qK97 | exact GW.may2 rfl rfl rfl rfl rfl rfl qK98) : p := h
set_option linter.unusedSimpArgs false
set_option linter.unusedVariables false
set_option maxRecDepth 20000
open Cel (c)

structure BackI (H : AHeap) (d m X : Nat) (room : Int) (D : Dk) (s : Stt) (y : AV) : Prop where
  dk : DkAt H d m D
  calm : D.Calm
  fine : D.Fine
  room : D.room = room
  cell : H.get X = some (.cells 34 (s.cs y))
  ok : s.Ok
  one : y.one = true
  pos : D.fs ≠ [] → y = vecA s.known ∧ D.fs = [(stN, ⟨docT s, true⟩)] ∧ rightB s = true
theorem BackI.keep {H H' : AHeap} {d m X : Nat} {room : Int} {D : Dk} {s : Stt} {y : AV} (h : BackI H d m X room D s y) (h1 : H'.get d = H.get d) (h2 : H'.get m = H.get m) (h3 : H'.get X = H.get X) : BackI H' d m X room D s y :=
  ⟨h.dk.same h1 h2, h.calm, h.fine, h.room, h3.trans h.cell, h.ok, h.one, h.pos⟩
theorem was_pos {D : Dk} {s : Stt} (h : D.fs = [(stN, ⟨docT s, true⟩)]) : 0 < D.was := by rw [Dk.was, h]; exact doc_pos s
theorem was_zero {D : Dk} (h : D.fs = []) : D.was = 0 := by rw [Dk.was, h]
theorem was_le {D : Dk} (h : D.Fine) : D.was ≤ 65536 := by
  rw [Dk.was]
  cases hf : D.fs with
  | nil => simp
  | cons p r => exact h.sz p (by rw [hf]; exact List.mem_cons_self)
def txtS (s : Stt) : List UInt8 := if rightB s = true then docT s else []
set_option maxHeartbeats 4000000 in
theorem back_law (H : AHeap) (l : List St) (room : Int) : ACalls Tryz.prog 3 [vecA l, .v (.int .i64 room)] H (fun r _ => r = .v (.bool true)) := by
  refine ACalls.lts fun hlt => ?_
  refine ACalls.of_body tok Tryz.func3 rfl Tryz.ntmps3 (Nat.le_of_ble_eq_true rfl) (fun base => ?_)
  refine rg fun K hK => ?_
  refine st qK725 <| nt (hK _ _ ?_)
  clear hK K
  refine AW.seq_k (fun K1 hK1 => ?_)
  refine rg fun K hK => ?_
  refine st (by exact SD.s rfl rfl rfl (by exact AStepD.callf rfl en8 rfl (anchor_calls _))) <| st (by exact SD.s rfl rfl rfl (by first | exact AStepD.not rfl rfl | exact AStepD.neg rfl rfl (by first | exact IntWalk.i64_in _ (by omega) | exact IntWalk.i64_in _ (by simp only [Bool.or_eq_true, Bool.and_eq_true, Bool.or_eq_false_iff, Bool.and_eq_false_iff, Bool.not_eq_true', Bool.not_eq_false', decide_eq_true_eq, decide_eq_false_iff_not, Int.not_lt, Int.not_le, beq_iff_eq] at *; omega) | exact rfl))) <| nt (hK _ _ ?_)
  clear hK K
  refine AW.cond_false rfl rfl (AW.skip ?_)
  refine hK1 _ _ ?_; try clear hK1 K1
  refine AW.seq_k (fun K2 hK2 => ?_)
  refine rg fun K hK => ?_
  refine st qK726 <| st (by exact SD.s rfl rfl rfl (by exact AStepD.callf rfl en9 rfl (small_calls9 _ l 10))) <| st (by exact SD.s rfl rfl rfl (by first | exact AStepD.not rfl rfl | exact AStepD.neg rfl rfl (by first | exact IntWalk.i64_in _ (by omega) | exact IntWalk.i64_in _ (by simp only [Bool.or_eq_true, Bool.and_eq_true, Bool.or_eq_false_iff, Bool.and_eq_false_iff, Bool.not_eq_true', Bool.not_eq_false', decide_eq_true_eq, decide_eq_false_iff_not, Int.not_lt, Int.not_le, beq_iff_eq] at *; omega) | exact rfl))) <| st qK726 <| st (GW.p (l := [1]) qK731) <| st (GW.p (l := [21]) qK99) <| st qK730 <| st qK726 <| st (GW.p (l := [1]) qK731) <| st (GW.p (l := [25]) qK910) <| st qK730 <| nt (hK _ _ ?_)
  clear hK K
  refine AW.cond _ rfl (fun hc => ?_) (fun hc => ?_)
  · refine rg fun K hK => ?_
    refine st qK725 <| nt (hK _ _ ?_)
    clear hK K
    exact AW.ret (RetQ.mk (.inr rfl) (retA_tmp rfl qK71 retA_nil) rfl)
  have hg : smallB l 10 = true ∧ 0 ≤ room ∧ room ≤ 65536 := by
    simp only [Bool.or_eq_false_iff, Bool.not_eq_false', decide_eq_false_iff_not, Int.not_lt] at hc
    simp_all
  clear hc
  obtain ⟨hsm, hr0, hr1⟩ := hg
  have hkn : ∀ s ∈ l, s.1.known.length ≤ 40 := by
    simp only [smallB, Bool.and_eq_true, List.all_eq_true, decide_eq_true_eq] at hsm
    exact hsm.1
  have hll : l.length ≤ 10 := by
    simp only [smallB, Bool.and_eq_true, decide_eq_true_eq] at hsm
    omega
  refine AW.skip ?_
  refine hK2 _ _ ?_; try clear hK2 K2
  refine rg fun K hK => ?_
  refine st qK726 <| ?_
  refine AL.call rfl rfl rfl (AStep.callf rfl en10 (new_calls _ room hr0 hr1)) ?_; rintro _ H1 ⟨rfl, h1, hk1, hn1⟩; replace hn1 : H.next + 1 < H1.next := by omega
  refine st qK725 <| nt (hK _ _ ?_)
  clear hK K
  have hf0 := D0_fine (room := room) ⟨hr0, hr1⟩
  refine AW.seq_k (fun K3 hK3 => ?_)
  refine rg fun K hK => ?_
  refine st qK726 <| st (by exact SD.s rfl rfl rfl qK712) <| nt (hK _ _ ?_)
  clear hK K
  refine AW.cond_false rfl rfl (AW.skip ?_)
  refine hK3 _ _ ?_; try clear hK3 K3
  refine rg fun K hK => ?_
  refine st qK721 <| nt (hK _ _ ?_)
  clear hK K
  rw [zS_zero]
  refine rg fun K hK => ?_
  refine st qK725 <| nt (hK _ _ ?_)
  clear hK K
  refine AW.seq_k (fun K4 hK4 => ?_)
  refine rg fun K hK => ?_
  refine st qK726 <| st (by exact SD.s rfl rfl rfl (by exact AStepD.len_sl tok rfl rfl .vec rfl rfl)) <| st qK726 <| nt (hK _ _ ?_)
  clear hK K
  have h1d := h1.d
  have h1m := h1.m
  refine AW.block ?_
  refine AW.loop_at (ι := Nat × Dk) (fun x => [(34, .v (.int .i64 (x.1 : Nat))), (33, .v (.int .i64 (l.length : Nat))), (32, vecA l), (7, .v (.int .i64 (x.2.was : Nat))), (6, .ptr H1.next 0), (5, .ptr (H.next + 1) 0), (1, .v (.int .i64 room))])
    (fun x H' => x.1 ≤ l.length ∧ (∃ s y, BackI H' (H.next + 1) H.next H1.next room x.2 s y) ∧ H1.next < H'.next) (fun x => l.length - x.1) (0, D0 room) qK718
    ⟨Nat.zero_le _, ⟨zS, .v (.slice none 0 0), ⟨qK720, qK720⟩, ⟨rfl, rfl, .inl rfl⟩, hf0, rfl, qK720, zS_ok, rfl, fun h => absurd rfl h⟩, qK714⟩ ?_
  rintro ⟨i, D⟩ H2 ⟨hi, ⟨s, y, hI⟩, hn2⟩
  have hi : i ≤ l.length := hi
  have hI : BackI H2 (H.next + 1) H.next H1.next room D s y := hI
  refine rg fun K hK => ?_
  refine st (by exact SD.s rfl rfl rfl qK91) <| nt (hK _ _ ?_)
  clear hK K
  refine AW.seq_k (fun K5 hK5 => ?_)
  refine AW.cond _ rfl (fun hc => ?_) (fun hc => ?_)
  · (try simp only [Bool.or_eq_true, Bool.and_eq_true, Bool.or_eq_false_iff, Bool.and_eq_false_iff, Bool.not_eq_true', Bool.not_eq_false', decide_eq_true_eq, decide_eq_false_iff_not, Int.not_lt, Int.not_le] at hc)
    have hil : i < l.length := by omega
    have hok := l[i].2
    have hk40 := hkn l[i] (List.getElem_mem hil)
    have hId := hI.dk.d
    have hIm := hI.dk.m
    have hIc := hI.cell
    have hwl := was_le hI.fine
    refine AW.skip ?_
    refine hK5 _ _ ?_; try clear hK5 K5
    refine AW.seq_k (fun K6 hK6 => ?_)
    refine AW.block ?_
    refine rg fun K hK => ?_
    refine st (by exact SD.s rfl rfl rfl qK719) <| st (by exact SD.s rfl rfl rfl qK727) <| st qK721 <| st0 (by exact ⟨rfl, rfl, (by exact st_store hok rfl rfl rfl qK720 zS_len rfl)⟩) <| nt (hK _ _ ?_)
    clear hK K
    refine rg fun K hK => ?_
    refine st (by exact SD.s rfl rfl rfl (by exact st_load hok rfl rfl qK720)) <| st (by exact SD.s rfl rfl rfl (by exact AStepD.val (AStepD.callf rfl en11 rfl (statetext_calls _ l[i].1 hok)) (show _ = AV.tup [strA (txtS l[i].1), .v (.int .i64 (if rightB l[i].1 then 0 else 10))] from rfl))) <| st qK726 <| st qK722 <| st qK722 <| st qK725 <| st qK725 <| nt (hK _ _ ?_)
    clear hK K
    refine rg fun K hK => ?_
    refine st qK726 <| st (by exact SD.s rfl rfl rfl (by exact st_load hok rfl rfl qK720)) <| ?_
    refine AL.call rfl rfl rfl (AStep.callf rfl en12 (save_calls _ (H.next + 1) H.next D l[i].1 hok ⟨qK720, qK720⟩ hI.fine)) ?_; rintro _ H3 ⟨rfl, h3, o3⟩
    refine st qK725 <| nt (hK _ _ ?_)
    clear hK K
    have hsv := save_calm hI.calm l[i].1
    have hn3 := o3.nx
    simp only [za, zb, zc] at hn3
    have hx9 : H3.get H2.next = some (.cells 34 (l[i].1.cs (vecA l[i].1.known))) := (o3.gt _ qK714 (by rintro (e | e) <;> omega)).trans qK720
    have hx6 : H3.get H1.next = some (.cells 34 (s.cs y)) := (o3.gt _ qK714 (by rintro (e | e) <;> omega)).trans qK720
    have hroom := hI.room
    refine AW.cut (fun T' H' => ∃ D' s' y', BackI H' (H.next + 1) H.next H1.next room D' s' y' ∧ H1.next < H'.next ∧ SubT T' [(34, .v (.int .i64 (i : Nat))), (33, .v (.int .i64 (l.length : Nat))), (32, vecA l), (7, .v (.int .i64 (D'.was : Nat))), (6, .ptr H1.next 0), (5, .ptr (H.next + 1) 0), (1, .v (.int .i64 room))]) ?_ ?_
    · refine AW.block ?_
      cases hr : rightB l[i].1 with
      | false =>
        rw [hr, if_neg (by decide)] at hsv
        rw [hsv] at h3
        refine rg fun K hK => ?_
        refine st (by exact SD.s rfl rfl rfl (by exact st_load hok rfl rfl hx9)) <| st (by exact SD.s rfl rfl rfl (by exact AStepD.callf rfl en13 rfl (made_calls _ l[i].1 hok (by omega)))) <| st (by exact SD.s rfl rfl rfl (by exact AStepD.bool (AStepD.callf rfl en14 rfl (rightx_calls _ l[i].1 hok)) hr)) <| st (by exact SD.s rfl rfl rfl (by first | exact AStepD.not rfl rfl | exact AStepD.neg rfl rfl (by first | exact IntWalk.i64_in _ (by omega) | exact IntWalk.i64_in _ (by simp only [Bool.or_eq_true, Bool.and_eq_true, Bool.or_eq_false_iff, Bool.and_eq_false_iff, Bool.not_eq_true', Bool.not_eq_false', decide_eq_true_eq, decide_eq_false_iff_not, Int.not_lt, Int.not_le, beq_iff_eq] at *; omega) | exact rfl))) <| st qK725 <| nt (hK _ _ ?_)
        clear hK K
        refine AW.cond_true rfl rfl ?_
        refine rg fun K hK => ?_
        refine st qK726 <| st (by exact SD.s rfl rfl rfl (by exact AStepD.bool (AStepD.neq rfl rfl rfl) (c := false) (by rw [hsv]; rfl))) <| nt (hK _ _ ?_)
        clear hK K
        refine AW.cond_false rfl rfl (AW.skip ?_)
        exact ⟨D, s, y, ⟨h3, hI.calm, hI.fine, hI.room, hx6, hI.ok, hI.one, hI.pos⟩, qK714, qK718⟩
      | true =>
        rw [hr, if_pos rfl] at hsv
        have htx : txtS l[i].1 = docT l[i].1 := by rw [txtS, hr, if_pos rfl]
        have hd4 := doc4 hr
        have hsz : (str (txtS l[i].1)).size = (docT l[i].1).length := by rw [str_size, htx]
        refine rg fun K hK => ?_
        refine st (by exact SD.s rfl rfl rfl (by exact st_load hok rfl rfl hx9)) <| st (by exact SD.s rfl rfl rfl (by exact AStepD.callf rfl en13 rfl (made_calls _ l[i].1 hok (by omega)))) <| st (by exact SD.s rfl rfl rfl (by exact AStepD.bool (AStepD.callf rfl en14 rfl (rightx_calls _ l[i].1 hok)) hr)) <| st (by exact SD.s rfl rfl rfl (by first | exact AStepD.not rfl rfl | exact AStepD.neg rfl rfl (by first | exact IntWalk.i64_in _ (by omega) | exact IntWalk.i64_in _ (by simp only [Bool.or_eq_true, Bool.and_eq_true, Bool.or_eq_false_iff, Bool.and_eq_false_iff, Bool.not_eq_true', Bool.not_eq_false', decide_eq_true_eq, decide_eq_false_iff_not, Int.not_lt, Int.not_le, beq_iff_eq] at *; omega) | exact rfl))) <| st qK725 <| nt (hK _ _ ?_)
        clear hK K
        refine AW.cond_false rfl rfl ?_
        refine rg fun K hK => ?_
        refine st qK726 <| st qK726 <| st (by exact SD.s rfl rfl rfl (by exact AStepD.val (AStepD.len_str tok rfl rfl rfl rfl) (y := .v (.int .i64 ((docT l[i].1).length : Nat))) (by rw [hsz]))) <| st (by exact SD.s rfl rfl rfl (by first | exact AStepD.add rfl rfl rfl (by first | exact IntWalk.i64_in _ (by omega) | exact IntWalk.i64_in _ (by simp only [Bool.or_eq_true, Bool.and_eq_true, Bool.or_eq_false_iff, Bool.and_eq_false_iff, Bool.not_eq_true', Bool.not_eq_false', decide_eq_true_eq, decide_eq_false_iff_not, Int.not_lt, Int.not_le, beq_iff_eq] at *; omega) | exact rfl) | exact AStepD.str_add rfl rfl rfl (by omega))) <| st qK726 <| st (by exact SD.s rfl rfl rfl qK92) <| st qK725 <| nt (hK _ _ ?_)
        clear hK K
        refine AW.cond _ rfl (fun hc => ?_) (fun hc => ?_)
        · (try simp only [Bool.or_eq_true, Bool.and_eq_true, Bool.or_eq_false_iff, Bool.and_eq_false_iff, Bool.not_eq_true', Bool.not_eq_false', decide_eq_true_eq, decide_eq_false_iff_not, Int.not_lt, Int.not_le] at hc)
          rw [if_pos (by rw [hroom]; omega)] at hsv
          rw [hsv] at h3
          refine rg fun K hK => ?_
          refine st qK726 <| st (by exact SD.s rfl rfl rfl (by exact AStepD.bool (AStepD.neq rfl rfl rfl) (c := false) (by rw [hsv]; rfl))) <| nt (hK _ _ ?_)
          clear hK K
          refine AW.cond_false rfl rfl (AW.skip ?_)
          exact ⟨D, s, y, ⟨h3, hI.calm, hI.fine, hI.room, hx6, hI.ok, hI.one, hI.pos⟩, qK714, qK718⟩
        · (try simp only [Bool.or_eq_true, Bool.and_eq_true, Bool.or_eq_false_iff, Bool.and_eq_false_iff, Bool.not_eq_true', Bool.not_eq_false', decide_eq_true_eq, decide_eq_false_iff_not, Int.not_lt, Int.not_le] at hc)
          rw [if_neg (by rw [hroom]; omega)] at hsv
          have hf3 := hI.fine.save l[i].1
          rw [hsv] at h3 hf3
          refine AW.seq_k (fun K8 hK8 => ?_)
          refine rg fun K hK => ?_
          refine st qK726 <| st (by exact SD.s rfl rfl rfl (by exact AStepD.bool (AStepD.neq rfl rfl rfl) (c := false) (by rw [hsv]; rfl))) <| nt (hK _ _ ?_)
          clear hK K
          refine AW.cond_false rfl rfl (AW.skip ?_)
          refine hK8 _ _ ?_; try clear hK8 K8
          refine AW.region ?_
          refine st (by exact SD.s rfl rfl rfl (by exact st_load hok rfl rfl hx9)) <| st qK726 <| st (by exact SD.s rfl rfl rfl (by exact AStepD.val (AStepD.len_str tok rfl rfl rfl rfl) (y := .v (.int .i64 ((docT l[i].1).length : Nat))) (by rw [hsz]))) <| st0 (by exact ⟨rfl, rfl, (by exact st_store hok rfl rfl rfl hx6 (hI.ok.fc _) rfl)⟩) <| st qK725 <| AL.nil ?_
          refine ⟨D.set1 (docT l[i].1), l[i].1, vecA l[i].1.known, ⟨h3.same qK723 qK723, set1_calm hI.calm _, hf3, hI.room, qK720, hok, rfl, fun _ => ⟨rfl, rfl, hr⟩⟩, qK714, qK718⟩
    rintro T' H4 ⟨D', s', y', hJ, hn4, hs⟩
    refine AW.sub hs ?_
    have hJc := hJ.cell
    have hJok := hJ.ok
    refine rg fun K hK => ?_
    refine st qK726 <| st (by exact SD.s rfl rfl rfl (by exact AStepD.callf rfl en15 rfl (load_calls _ (H.next + 1) H.next D' hJ.dk hJ.fine))) <| st qK726 <| st qK722 <| st qK722 <| st qK721 <| st0 (by exact ⟨rfl, rfl, (by exact st_store (load_ok D') rfl rfl rfl qK720 zS_len rfl)⟩) <| st qK725 <| nt (hK _ _ ?_)
    clear hK K
    have hlk := load_kept hJ.calm.down
    by_cases hfs : D'.fs = []
    · have hw := was_zero hfs
      have hl2 : D'.load.2 = 52 := by rw [hlk, Dk.kept, hfs]; rfl
      refine rg fun K hK => ?_
      refine st qK726 <| st (by exact SD.s rfl rfl rfl (by exact AStepD.bool (AStepD.eql rfl rfl rfl) (c := true) (by rw [hw]; rfl))) <| st qK726 <| st (GW.p (l := [14]) qK731) <| st (GW.p (l := [75]) (by first | exact GW.yes rfl rfl rfl rfl rfl rfl rfl (by exact AStepD.bool (AStepD.neq rfl rfl rfl) (c := false) (by rw [hl2]; rfl)) | exact GW.no rfl rfl rfl rfl rfl rfl rfl | exact GW.none rfl rfl rfl rfl rfl | exact GW.may rfl rfl rfl rfl rfl rfl (fun hb => by (repeat (first | apply UW.yes rfl (gpf hb) | apply UW.no)); exact UW.nil (by exact AStepD.bool (AStepD.neq rfl rfl rfl) (c := false) (by rw [hl2]; rfl))) | exact GW.may2 rfl rfl rfl rfl rfl rfl (fun _ hb => by (repeat (first | apply UW.yes rfl (gpf hb) | apply UW.no)); exact UW.nil (by exact AStepD.bool (AStepD.neq rfl rfl rfl) (c := false) (by rw [hl2]; rfl))))) <| st qK730 <| st qK726 <| st (GW.p (l := [7]) qK731) <| st (GW.p (l := [79]) (by first | exact GW.yes rfl rfl rfl rfl rfl rfl rfl (by exact AStepD.bool (AStepD.gtr rfl rfl rfl) (c := false) (by rw [hw]; rfl)) | exact GW.no rfl rfl rfl rfl rfl rfl rfl | exact GW.none rfl rfl rfl rfl rfl | exact GW.may rfl rfl rfl rfl rfl rfl (fun hb => by (repeat (first | apply UW.yes rfl (gpf hb) | apply UW.no)); exact UW.nil (by exact AStepD.bool (AStepD.gtr rfl rfl rfl) (c := false) (by rw [hw]; rfl))) | exact GW.may2 rfl rfl rfl rfl rfl rfl (fun _ hb => by (repeat (first | apply UW.yes rfl (gpf hb) | apply UW.no)); exact UW.nil (by exact AStepD.bool (AStepD.gtr rfl rfl rfl) (c := false) (by rw [hw]; rfl))))) <| st (GW.p (l := [80]) qK731) <| st (GW.p (l := [14]) qK731) <| st (GW.p (l := [82]) qK911) <| st (GW.p (l := [83]) qK731) <| st (GW.p (l := [13]) qK912) <| st (GW.p (l := [6]) qK912) <| st (GW.p (l := [85, 86]) qK96) <| st (GW.p (l := [87]) (by first | exact GW.yes rfl rfl rfl rfl rfl rfl rfl (by first | exact AStepD.not rfl rfl | exact AStepD.neg rfl rfl (by first | exact IntWalk.i64_in _ (by omega) | exact IntWalk.i64_in _ (by simp only [Bool.or_eq_true, Bool.and_eq_true, Bool.or_eq_false_iff, Bool.and_eq_false_iff, Bool.not_eq_true', Bool.not_eq_false', decide_eq_true_eq, decide_eq_false_iff_not, Int.not_lt, Int.not_le, beq_iff_eq] at *; omega) | exact rfl)) | exact GW.no rfl rfl rfl rfl rfl rfl rfl | exact GW.none rfl rfl rfl rfl rfl | exact GW.may rfl rfl rfl rfl rfl rfl (fun hb => by (repeat (first | apply UW.yes rfl (gpf hb) | apply UW.no)); exact UW.nil (by first | exact AStepD.not rfl rfl | exact AStepD.neg rfl rfl (by first | exact IntWalk.i64_in _ (by omega) | exact IntWalk.i64_in _ (by simp only [Bool.or_eq_true, Bool.and_eq_true, Bool.or_eq_false_iff, Bool.and_eq_false_iff, Bool.not_eq_true', Bool.not_eq_false', decide_eq_true_eq, decide_eq_false_iff_not, Int.not_lt, Int.not_le, beq_iff_eq] at *; omega) | exact rfl))) | exact GW.may2 rfl rfl rfl rfl rfl rfl (fun _ hb => by (repeat (first | apply UW.yes rfl (gpf hb) | apply UW.no)); exact UW.nil (by first | exact AStepD.not rfl rfl | exact AStepD.neg rfl rfl (by first | exact IntWalk.i64_in _ (by omega) | exact IntWalk.i64_in _ (by simp only [Bool.or_eq_true, Bool.and_eq_true, Bool.or_eq_false_iff, Bool.and_eq_false_iff, Bool.not_eq_true', Bool.not_eq_false', decide_eq_true_eq, decide_eq_false_iff_not, Int.not_lt, Int.not_le, beq_iff_eq] at *; omega) | exact rfl))))) <| st (GW.p (l := [84, 88]) qK913) <| st (GW.p (l := [81, 89]) qK913) <| st qK730 <| nt (hK _ _ ?_)
      clear hK K
      refine AW.cond_false rfl rfl (AW.skip ?_)
      refine hK6 _ _ ?_; try clear hK6 K6
      refine AW.region ?_
      refine st (by exact SD.s rfl rfl rfl (by first | exact AStepD.add rfl rfl rfl (by first | exact IntWalk.i64_in _ (by omega) | exact IntWalk.i64_in _ (by simp only [Bool.or_eq_true, Bool.and_eq_true, Bool.or_eq_false_iff, Bool.and_eq_false_iff, Bool.not_eq_true', Bool.not_eq_false', decide_eq_true_eq, decide_eq_false_iff_not, Int.not_lt, Int.not_le, beq_iff_eq] at *; omega) | exact rfl) | exact AStepD.str_add rfl rfl rfl (by omega))) <| st qK726 <| AL.nil ?_
      exact ⟨(i + 1, D'), by show l.length - (i + 1) < l.length - i; omega, qK718, by show i + 1 ≤ l.length; omega, ⟨s', y', hJ.keep qK723 qK723 qK723⟩, qK714⟩
    · obtain ⟨rfl, hfs2, hrs⟩ := hJ.pos hfs
      have hw := was_pos hfs2
      have hld : D'.load = (s', 0) := load_doc hJ.calm.down hJok hrs (b := true) (by rw [Dk.kept, hfs2]; simp [getK])
      have hl1 : D'.load.1 = s' := by rw [hld]
      have hl2 : D'.load.2 = 0 := by rw [hld]
      rw [hl1]
      refine rg fun K hK => ?_
      refine st qK726 <| st (by exact SD.s rfl rfl rfl (by exact AStepD.bool (AStepD.eql rfl rfl rfl) (c := false) (by simp; omega))) <| st qK726 <| st (GW.p (l := [14]) qK731) <| st (GW.p (l := [75]) (by first | exact GW.yes rfl rfl rfl rfl rfl rfl rfl (by exact AStepD.bool (AStepD.neq rfl rfl rfl) (c := true) (by rw [hl2]; rfl)) | exact GW.no rfl rfl rfl rfl rfl rfl rfl | exact GW.none rfl rfl rfl rfl rfl | exact GW.may rfl rfl rfl rfl rfl rfl (fun hb => by (repeat (first | apply UW.yes rfl (gpf hb) | apply UW.no)); exact UW.nil (by exact AStepD.bool (AStepD.neq rfl rfl rfl) (c := true) (by rw [hl2]; rfl))) | exact GW.may2 rfl rfl rfl rfl rfl rfl (fun _ hb => by (repeat (first | apply UW.yes rfl (gpf hb) | apply UW.no)); exact UW.nil (by exact AStepD.bool (AStepD.neq rfl rfl rfl) (c := true) (by rw [hl2]; rfl))))) <| st qK730 <| st qK726 <| st (GW.p (l := [7]) qK731) <| st (GW.p (l := [79]) (by first | exact GW.yes rfl rfl rfl rfl rfl rfl rfl (by exact AStepD.bool (AStepD.gtr rfl rfl rfl) (c := true) (by simp; omega)) | exact GW.no rfl rfl rfl rfl rfl rfl rfl | exact GW.none rfl rfl rfl rfl rfl | exact GW.may rfl rfl rfl rfl rfl rfl (fun hb => by (repeat (first | apply UW.yes rfl (gpf hb) | apply UW.no)); exact UW.nil (by exact AStepD.bool (AStepD.gtr rfl rfl rfl) (c := true) (by simp; omega))) | exact GW.may2 rfl rfl rfl rfl rfl rfl (fun _ hb => by (repeat (first | apply UW.yes rfl (gpf hb) | apply UW.no)); exact UW.nil (by exact AStepD.bool (AStepD.gtr rfl rfl rfl) (c := true) (by simp; omega))))) <| st (GW.p (l := [80]) qK731) <| st (GW.p (l := [14]) qK731) <| st (GW.p (l := [82]) (by first | exact GW.yes rfl rfl rfl rfl rfl rfl rfl (by exact AStepD.bool (AStepD.neq rfl rfl rfl) (c := false) (by rw [hl2]; rfl)) | exact GW.no rfl rfl rfl rfl rfl rfl rfl | exact GW.none rfl rfl rfl rfl rfl | exact GW.may rfl rfl rfl rfl rfl rfl (fun hb => by (repeat (first | apply UW.yes rfl (gpf hb) | apply UW.no)); exact UW.nil (by exact AStepD.bool (AStepD.neq rfl rfl rfl) (c := false) (by rw [hl2]; rfl))) | exact GW.may2 rfl rfl rfl rfl rfl rfl (fun _ hb => by (repeat (first | apply UW.yes rfl (gpf hb) | apply UW.no)); exact UW.nil (by exact AStepD.bool (AStepD.neq rfl rfl rfl) (c := false) (by rw [hl2]; rfl))))) <| st (GW.p (l := [83]) qK731) <| st (GW.p (l := [13]) (by first | exact GW.yes rfl rfl rfl rfl rfl rfl rfl (by exact st_load hJok rfl rfl qK720) | exact GW.no rfl rfl rfl rfl rfl rfl rfl | exact GW.none rfl rfl rfl rfl rfl | exact GW.may rfl rfl rfl rfl rfl rfl (fun hb => by (repeat (first | apply UW.yes rfl (gpf hb) | apply UW.no)); exact UW.nil (by exact st_load hJok rfl rfl qK720)) | exact GW.may2 rfl rfl rfl rfl rfl rfl (fun _ hb => by (repeat (first | apply UW.yes rfl (gpf hb) | apply UW.no)); exact UW.nil (by exact st_load hJok rfl rfl qK720)))) <| st (GW.p (l := [6]) (by first | exact GW.yes rfl rfl rfl rfl rfl rfl rfl (by exact st_load hJok rfl rfl qK720) | exact GW.no rfl rfl rfl rfl rfl rfl rfl | exact GW.none rfl rfl rfl rfl rfl | exact GW.may rfl rfl rfl rfl rfl rfl (fun hb => by (repeat (first | apply UW.yes rfl (gpf hb) | apply UW.no)); exact UW.nil (by exact st_load hJok rfl rfl qK720)) | exact GW.may2 rfl rfl rfl rfl rfl rfl (fun _ hb => by (repeat (first | apply UW.yes rfl (gpf hb) | apply UW.no)); exact UW.nil (by exact st_load hJok rfl rfl qK720)))) <| st (GW.p (l := [85, 86]) (by first | exact GW.yes rfl rfl rfl rfl rfl rfl rfl (by exact AStepD.bool (AStepD.callf rfl en16 rfl (same_calls _ s' s' hJok hJok)) (c := true) (by simp)) | exact GW.no rfl rfl rfl rfl rfl rfl rfl | exact GW.none rfl rfl rfl rfl rfl | exact GW.may rfl rfl rfl rfl rfl rfl (fun hb => by (repeat (first | apply UW.yes rfl (gpf hb) | apply UW.no)); exact UW.nil (by exact AStepD.bool (AStepD.callf rfl en16 rfl (same_calls _ s' s' hJok hJok)) (c := true) (by simp))) | exact GW.may2 rfl rfl rfl rfl rfl rfl (fun _ hb => by (repeat (first | apply UW.yes rfl (gpf hb) | apply UW.no)); exact UW.nil (by exact AStepD.bool (AStepD.callf rfl en16 rfl (same_calls _ s' s' hJok hJok)) (c := true) (by simp))))) <| st (GW.p (l := [87]) (by first | exact GW.yes rfl rfl rfl rfl rfl rfl rfl (by first | exact AStepD.not rfl rfl | exact AStepD.neg rfl rfl (by first | exact IntWalk.i64_in _ (by omega) | exact IntWalk.i64_in _ (by simp only [Bool.or_eq_true, Bool.and_eq_true, Bool.or_eq_false_iff, Bool.and_eq_false_iff, Bool.not_eq_true', Bool.not_eq_false', decide_eq_true_eq, decide_eq_false_iff_not, Int.not_lt, Int.not_le, beq_iff_eq] at *; omega) | exact rfl)) | exact GW.no rfl rfl rfl rfl rfl rfl rfl | exact GW.none rfl rfl rfl rfl rfl | exact GW.may rfl rfl rfl rfl rfl rfl (fun hb => by (repeat (first | apply UW.yes rfl (gpf hb) | apply UW.no)); exact UW.nil (by first | exact AStepD.not rfl rfl | exact AStepD.neg rfl rfl (by first | exact IntWalk.i64_in _ (by omega) | exact IntWalk.i64_in _ (by simp only [Bool.or_eq_true, Bool.and_eq_true, Bool.or_eq_false_iff, Bool.and_eq_false_iff, Bool.not_eq_true', Bool.not_eq_false', decide_eq_true_eq, decide_eq_false_iff_not, Int.not_lt, Int.not_le, beq_iff_eq] at *; omega) | exact rfl))) | exact GW.may2 rfl rfl rfl rfl rfl rfl (fun _ hb => by (repeat (first | apply UW.yes rfl (gpf hb) | apply UW.no)); exact UW.nil (by first | exact AStepD.not rfl rfl | exact AStepD.neg rfl rfl (by first | exact IntWalk.i64_in _ (by omega) | exact IntWalk.i64_in _ (by simp only [Bool.or_eq_true, Bool.and_eq_true, Bool.or_eq_false_iff, Bool.and_eq_false_iff, Bool.not_eq_true', Bool.not_eq_false', decide_eq_true_eq, decide_eq_false_iff_not, Int.not_lt, Int.not_le, beq_iff_eq] at *; omega) | exact rfl))))) <| st (GW.p (l := [84, 88]) qK913) <| st (GW.p (l := [81, 89]) qK913) <| st qK730 <| nt (hK _ _ ?_)
      clear hK K
      refine AW.cond_false rfl rfl (AW.skip ?_)
      refine hK6 _ _ ?_; try clear hK6 K6
      refine AW.region ?_
      refine st (by exact SD.s rfl rfl rfl (by first | exact AStepD.add rfl rfl rfl (by first | exact IntWalk.i64_in _ (by omega) | exact IntWalk.i64_in _ (by simp only [Bool.or_eq_true, Bool.and_eq_true, Bool.or_eq_false_iff, Bool.and_eq_false_iff, Bool.not_eq_true', Bool.not_eq_false', decide_eq_true_eq, decide_eq_false_iff_not, Int.not_lt, Int.not_le, beq_iff_eq] at *; omega) | exact rfl) | exact AStepD.str_add rfl rfl rfl (by omega))) <| st qK726 <| AL.nil ?_
      exact ⟨(i + 1, D'), by show l.length - (i + 1) < l.length - i; omega, qK718, by show i + 1 ≤ l.length; omega, ⟨s', _, hJ.keep qK723 qK723 qK723⟩, qK714⟩
  · (try simp only [Bool.or_eq_true, Bool.and_eq_true, Bool.or_eq_false_iff, Bool.and_eq_false_iff, Bool.not_eq_true', Bool.not_eq_false', decide_eq_true_eq, decide_eq_false_iff_not, Int.not_lt, Int.not_le] at hc)
    refine AW.exit ?_
    refine hK4 _ _ ?_; try clear hK4 K4
    refine rg fun K hK => ?_
    refine st qK725 <| nt (hK _ _ ?_)
    clear hK K
    exact AW.ret (RetQ.mk (.inr rfl) (retA_tmp rfl qK71 retA_nil) rfl)
end Go.Proofs.YtcomjodfkcnjhaaGreatDoor
