/- Walks: a file with any bytes is loaded just if they are a state's text. -/
import Derived.Test.YtcomjodfkcnjhaaGreatDoorCK2
set_option linter.unusedSimpArgs false
set_option linter.unusedVariables false
namespace Go.Proofs.YtcomjodfkcnjhaaGreatDoor
open Go.Ax
open Cel (c)
theorem qK81 {p : Prop} (h : p := by first | exact AStepD.neq rfl rfl rfl | exact AStepD.str_neq rfl rfl rfl | exact (AStepD.ptr_nil tok (.inl ⟨_, _, rfl⟩) rfl rfl rfl).2 rfl | exact (AStepD.nil_nil tok rfl rfl rfl rfl).2 rfl | exact (AStepD.bool_eq tok rfl rfl rfl rfl).2 rfl | exact (AStepD.ptr_same tok rfl rfl rfl rfl rfl).2 rfl | exact (AStepD.iface_nil tok rfl rfl rfl rfl).2 rfl | exact (AStepD.nilIface_nil tok rfl rfl rfl rfl).2 rfl) : p := h
theorem qK82 {p : Prop} (h : p := by first | exact GW.yes rfl rfl rfl rfl rfl rfl rfl qK81 | exact GW.no rfl rfl rfl rfl rfl rfl rfl | exact GW.none rfl rfl rfl rfl rfl | exact GW.may rfl rfl rfl rfl rfl rfl (fun hb => by (repeat (first | apply UW.yes rfl (gpf hb) | apply UW.no)); exact UW.nil qK81) | exact GW.may2 rfl rfl rfl rfl rfl rfl (fun _ hb => by (repeat (first | apply UW.yes rfl (gpf hb) | apply UW.no)); exact UW.nil qK81)) : p := h
set_option linter.unusedSimpArgs false
set_option linter.unusedVariables false
set_option maxRecDepth 20000
open Cel (c)

theorem write_st (b : List UInt8) (hb : b.length ≤ 4000) : (D0 65536).write stN b = (⟨[(stN, ⟨b, false⟩)], 65536, -1, false⟩, 0) := by
  rw [Dk.write, show (D0 65536).down = false from rfl, if_neg (by decide), show (D0 65536).others stN = 0 from rfl, if_neg (by show ¬ (b.length : Int) > 65536 - ((0 : Nat) : Int); omega)]
  simp only
  rw [step_calm (D := (D0 65536).put stN ⟨b, false⟩) rfl]
  rfl
theorem reads_law (H : AHeap) (b : List UInt8) : ACalls Tryz.prog 4 [vecA b] H (fun r _ => r = .v (.bool true)) := by
  refine ACalls.lts fun hlt => ?_
  refine ACalls.of_body tok Tryz.func4 rfl Tryz.ntmps4 (Nat.le_of_ble_eq_true rfl) (fun base => ?_)
  refine rg fun K hK => ?_
  refine st qK725 <| nt (hK _ _ ?_)
  clear hK K
  refine AW.seq_k (fun K1 hK1 => ?_)
  refine rg fun K hK => ?_
  refine st (by exact SD.s rfl rfl rfl (by exact AStepD.callf rfl en8 rfl (anchor_calls _))) <| st (by exact SD.s rfl rfl rfl (by first | exact AStepD.not rfl rfl | exact AStepD.neg rfl rfl (by first | exact IntWalk.i64_in _ (by omega) | exact IntWalk.i64_in _ (by simp only [Bool.or_eq_true, Bool.and_eq_true, Bool.or_eq_false_iff, Bool.and_eq_false_iff, Bool.not_eq_true', Bool.not_eq_false', decide_eq_true_eq, decide_eq_false_iff_not, Int.not_lt, Int.not_le, beq_iff_eq] at *; omega) | exact rfl))) <| nt (hK _ _ ?_)
  clear hK K
  refine AW.cond_false rfl rfl (AW.skip ?_)
  refine hK1 _ _ ?_; try clear hK1 K1
  refine AW.seq_k (fun K2 hK2 => ?_)
  refine rg fun K hK => ?_
  refine st qK726 <| st (by exact SD.s rfl rfl rfl (by exact AStepD.len_sl tok rfl rfl .vec rfl rfl)) <| st (by exact SD.s rfl rfl rfl (by exact AStepD.gtr rfl rfl rfl)) <| nt (hK _ _ ?_)
  clear hK K
  refine AW.cond _ rfl (fun hc => ?_) (fun hc => ?_)
  · refine rg fun K hK => ?_
    refine st qK725 <| nt (hK _ _ ?_)
    clear hK K
    exact AW.ret (RetQ.mk (.inr rfl) (retA_tmp rfl qK71 retA_nil) rfl)
  have hb : b.length ≤ 4000 := by have := of_decide_eq_false hc; omega
  clear hc
  refine AW.skip ?_
  refine hK2 _ _ ?_; try clear hK2 K2
  refine rg fun K hK => ?_
  refine AL.call rfl rfl rfl (AStep.callf rfl en10 (new_calls _ 65536 (by decide) (by decide))) ?_; rintro _ H1 ⟨rfl, h1, hk1, hn1⟩
  refine st qK725 <| nt (hK _ _ ?_)
  clear hK K
  have hf0 := D0_fine (room := 65536) (by decide)
  refine AW.seq_k (fun K3 hK3 => ?_)
  refine rg fun K hK => ?_
  refine st qK726 <| st (by exact SD.s rfl rfl rfl qK712) <| st qK726 <| st (GW.p (l := [3]) qK731) <| st (GW.p (l := [0]) qK731) <| ?_
  refine AL.gcall rfl rfl rfl rfl rfl rfl rfl (AStep.callf rfl en17 (write_calls _ (H.next + 1) H.next (D0 65536) stL (vecA b) b h1 hf0.ok st_low .vec (by omega) hf0.room hf0.left)) ?_; rw [show str stL = stN from rfl, write_st b hb]; rintro _ H2 ⟨rfl, h2, o2⟩
  refine st (GW.p (l := [19]) qK82) <| st qK730 <| nt (hK _ _ ?_)
  clear hK K
  refine AW.cond_false rfl rfl (AW.skip ?_)
  refine hK3 _ _ ?_; try clear hK3 K3
  have hf2 : (⟨[(stN, ⟨b, false⟩)], 65536, -1, false⟩ : Dk).Fine := ⟨by simp [keysK], by simp [keysK], by simp; omega, ⟨by show (0 : Int) ≤ 65536; decide, by show (65536 : Int) ≤ 65536; decide⟩, by show (-1 : Int) ≤ _; decide⟩
  have hld : (⟨[(stN, ⟨b, false⟩)], 65536, -1, false⟩ : Dk).load = ((parseP b).getD zS, if (parseP b).isSome then 0 else 60) := by
    rw [load_kept rfl]; simp [Dk.kept, getK]
  have hok := parse_get_ok b
  refine rg fun K hK => ?_
  refine st qK726 <| st (by exact SD.s rfl rfl rfl (by exact AStepD.val (AStepD.callf rfl en15 rfl (load_calls _ (H.next + 1) H.next _ h2 hf2)) (y := .tup [stA ((parseP b).getD zS), .v (.int .i64 (if (parseP b).isSome then 0 else 60))]) (by rw [hld]))) <| st qK726 <| st qK722 <| st qK722 <| st qK721 <| st0 (by exact ⟨rfl, rfl, (by exact st_store (y := vecA ((parseP b).getD zS).known) hok rfl rfl rfl qK720 zS_len rfl)⟩) <| st qK725 <| nt (hK _ _ ?_)
  clear hK K
  refine rg fun K hK => ?_
  refine st qK726 <| st (by exact SD.s rfl rfl rfl (by exact AStepD.bytes_str (bs := b) tok rfl rfl .vec (flat_bytes _) rfl rfl rfl rfl rfl rfl rfl)) <| st (by exact SD.s rfl rfl rfl (by exact AStepD.callf rfl en18 rfl (parseS_calls _ b (by omega)))) <| st qK726 <| st qK722 <| st qK722 <| st qK721 <| st0 (by exact ⟨rfl, rfl, (by exact st_store (y := vecA ((parseP b).getD zS).known) hok rfl rfl rfl qK720 zS_len rfl)⟩) <| st qK725 <| nt (hK _ _ ?_)
  clear hK K
  refine rg fun K hK => ?_
  refine st qK726 <| st qK726 <| st (by exact SD.s rfl rfl rfl (by exact AStepD.bool (AStepD.eql rfl rfl rfl) (c := true) (by simp))) <| st qK726 <| st (GW.p (l := [4]) (by first | exact GW.yes rfl rfl rfl rfl rfl rfl rfl (by exact st_load hok rfl rfl qK720) | exact GW.no rfl rfl rfl rfl rfl rfl rfl | exact GW.none rfl rfl rfl rfl rfl | exact GW.may rfl rfl rfl rfl rfl rfl (fun hb => by (repeat (first | apply UW.yes rfl (gpf hb) | apply UW.no)); exact UW.nil (by exact st_load hok rfl rfl qK720)) | exact GW.may2 rfl rfl rfl rfl rfl rfl (fun _ hb => by (repeat (first | apply UW.yes rfl (gpf hb) | apply UW.no)); exact UW.nil (by exact st_load hok rfl rfl qK720)))) <| st (GW.p (l := [6]) (by first | exact GW.yes rfl rfl rfl rfl rfl rfl rfl (by exact st_load hok rfl rfl qK720) | exact GW.no rfl rfl rfl rfl rfl rfl rfl | exact GW.none rfl rfl rfl rfl rfl | exact GW.may rfl rfl rfl rfl rfl rfl (fun hb => by (repeat (first | apply UW.yes rfl (gpf hb) | apply UW.no)); exact UW.nil (by exact st_load hok rfl rfl qK720)) | exact GW.may2 rfl rfl rfl rfl rfl rfl (fun _ hb => by (repeat (first | apply UW.yes rfl (gpf hb) | apply UW.no)); exact UW.nil (by exact st_load hok rfl rfl qK720)))) <| st (GW.p (l := [37, 38]) (by first | exact GW.yes rfl rfl rfl rfl rfl rfl rfl (by exact AStepD.bool (AStepD.callf rfl en16 rfl (same_calls _ _ _ hok hok)) (c := true) (by simp)) | exact GW.no rfl rfl rfl rfl rfl rfl rfl | exact GW.none rfl rfl rfl rfl rfl | exact GW.may rfl rfl rfl rfl rfl rfl (fun hb => by (repeat (first | apply UW.yes rfl (gpf hb) | apply UW.no)); exact UW.nil (by exact AStepD.bool (AStepD.callf rfl en16 rfl (same_calls _ _ _ hok hok)) (c := true) (by simp))) | exact GW.may2 rfl rfl rfl rfl rfl rfl (fun _ hb => by (repeat (first | apply UW.yes rfl (gpf hb) | apply UW.no)); exact UW.nil (by exact AStepD.bool (AStepD.callf rfl en16 rfl (same_calls _ _ _ hok hok)) (c := true) (by simp))))) <| st qK730 <| st qK725 <| nt (hK _ _ ?_)
  clear hK K
  exact AW.ret (RetQ.mk (.inr rfl) (retA_tmp rfl qK71 retA_nil) rfl)
end Go.Proofs.YtcomjodfkcnjhaaGreatDoor
