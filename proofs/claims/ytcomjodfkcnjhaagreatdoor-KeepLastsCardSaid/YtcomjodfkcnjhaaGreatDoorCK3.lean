/- Walks: saves that are cut off at any call. -/
import Derived.Test.YtcomjodfkcnjhaaGreatDoorCK2
set_option linter.unusedSimpArgs false
set_option linter.unusedVariables false
namespace Go.Proofs.YtcomjodfkcnjhaaGreatDoor
open Go.Ax
open Cel (c)
theorem qK101 {p : Prop} (h : p := by exact AStepD.gtr rfl rfl rfl) : p := h
theorem qK102 {p : Prop} (h : p := by exact AStepD.lss rfl rfl rfl) : p := h
theorem qK103 {p : Prop} (h : p := by first | exact AStepD.indexAddr_flat tok rfl rfl rfl rfl rfl rfl rfl (show _ = 1 from rfl) rfl qK73 qK74 | exact AStepD.indexAddr_vec' tok rfl rfl rfl rfl rfl rfl (show _ = 1 from rfl) qK73 qK74 | exact AStepD.indexAddr_sl' tok rfl rfl rfl rfl rfl rfl (show _ = 1 from rfl) qK73 qK74 qK75 | exact AStepD.indexAddr_arr' tok rfl rfl rfl rfl rfl rfl (show _ = 1 from rfl) qK73 qK74 qK75) : p := h
theorem qK104 {p : Prop} (h : p := by first | with_reducible assumption | exact rfl) : p := h
theorem qK105 {p : Prop} (h : p := by exact (fun hb => by (repeat (first | apply UW.yes rfl (gpf hb) | apply UW.no)); exact UW.nil qK724)) : p := h
theorem qK106 {p : Prop} (h : p := by exact (fun _ hb => by (repeat (first | apply UW.yes rfl (gpf hb) | apply UW.no)); exact UW.nil qK724)) : p := h
theorem qK107 {p : Prop} (h : p := by exact (fun hb => by (repeat (first | apply UW.yes rfl (gpf hb) | apply UW.no)); exact UW.nil qK101)) : p := h
theorem qK108 {p : Prop} (h : p := by exact (fun _ hb => by (repeat (first | apply UW.yes rfl (gpf hb) | apply UW.no)); exact UW.nil qK101)) : p := h
theorem qK109 {p : Prop} (h : p := by exact SD.s rfl rfl rfl qK102) : p := h
theorem qK1010 {p : Prop} (h : p := by first | exact GW.yes rfl rfl rfl rfl rfl rfl rfl qK724 | exact GW.no rfl rfl rfl rfl rfl rfl rfl | exact GW.none rfl rfl rfl rfl rfl | exact GW.may rfl rfl rfl rfl rfl rfl qK105 | exact GW.may2 rfl rfl rfl rfl rfl rfl qK106) : p := h
theorem qK1011 {p : Prop} (h : p := by first | exact GW.yes rfl rfl rfl rfl rfl rfl rfl qK101 | exact GW.no rfl rfl rfl rfl rfl rfl rfl | exact GW.none rfl rfl rfl rfl rfl | exact GW.may rfl rfl rfl rfl rfl rfl qK107 | exact GW.may2 rfl rfl rfl rfl rfl rfl qK108) : p := h
set_option linter.unusedSimpArgs false
set_option linter.unusedVariables false
set_option maxRecDepth 20000
open Cel (c)

theorem cut_safe {f g : Fil} (h : Cut f g) (hs : f.safe = true) : g = f := by
  rcases h with h | ⟨h, _⟩
  · exact h
  · rw [hs] at h; cases h
theorem cutf_len {f g : Fil} (h : Cut f g) : g.b.length ≤ f.b.length := by
  rcases h with rfl | ⟨_, k, hk, rfl⟩
  · exact Nat.le_refl _
  · simp only [List.length_take]; omega
def Dk.calm (D : Dk) : Dk := { D with left := -1, down := false }
theorem crash_fine {D D' : Dk} (h : Crashed D D' (keysK D.fs)) (hf : D.Fine) : D'.calm.Fine := by
  refine ⟨by show ∀ k ∈ keysK D'.fs, _; rw [h.keys]; exact hf.keys, by show (keysK D'.fs).Nodup; rw [h.keys]; exact hf.nd, fun p hp => ?_, by have := hf.room; rw [← h.room] at this; exact this, by show (-1 : Int) ≤ _; decide⟩
  have hn : (keysK D'.fs).Nodup := by rw [h.keys]; exact hf.nd
  have hg := getK_of_mem hn hp
  have hk : p.1 ∈ keysK D.fs := by rw [← h.keys]; exact List.mem_map.2 ⟨p, hp, rfl⟩
  cases hd : getK D.fs p.1 with
  | none => exact absurd hk (getK_none.1 hd)
  | some f =>
    obtain ⟨g, h1, h2, _⟩ := h.get _ f hd
    rw [hg] at h1; cases h1
    exact Nat.le_trans (cutf_len h2) (hf.sz _ (getK_some_mem hd))
theorem crash_kept {D D' : Dk} (h : Crashed D D' (keysK D.fs)) (hs : ∀ f, D.kept = some f → f.safe = true) : D'.calm.kept = D.kept := by
  show getK D'.fs stN = getK D.fs stN
  cases hd : getK D.fs stN with
  | none =>
    rw [getK_none, h.keys]
    exact getK_none.1 hd
  | some f =>
    obtain ⟨g, h1, h2, _⟩ := h.get _ f hd
    rw [h1, cut_safe h2 (hs f hd)]

structure LastI (H : AHeap) (d m X : Nat) (D : Dk) (s : Stt) (y : AV) (saved : Bool) : Prop where
  dk : DkAt H d m D
  fine : D.Fine
  up : D.down = false
  cell : H.get X = some (.cells 34 (s.cs y))
  ok : s.Ok
  one : y.one = true
  no : saved = false → D.kept = none
  yes : saved = true → D.kept = some ⟨docT s, true⟩ ∧ y = vecA s.known ∧ rightB s = true
theorem LastI.keep {H H' : AHeap} {d m X : Nat} {D : Dk} {s : Stt} {y : AV} {b : Bool} (h : LastI H d m X D s y b) (h1 : H'.get d = H.get d) (h2 : H'.get m = H.get m) (h3 : H'.get X = H.get X) : LastI H' d m X D s y b :=
  ⟨h.dk.same h1 h2, h.fine, h.up, h3.trans h.cell, h.ok, h.one, h.no, h.yes⟩
theorem LastI.safe {H : AHeap} {d m X : Nat} {D : Dk} {s : Stt} {y : AV} {b : Bool} (h : LastI H d m X D s y b) : ∀ f, D.kept = some f → f.safe = true := by
  intro f hf
  cases b with
  | false => rw [h.no rfl] at hf; cases hf
  | true => rw [(h.yes rfl).1] at hf; cases hf; rfl
theorem arm_fine {D : Dk} (h : D.Fine) {n : Int} (hn : n ≤ 9223372036854775807) : (D.arm n).Fine := ⟨h.keys, h.nd, h.sz, h.room, by show (if n < -1 then (-1 : Int) else n) ≤ _; split <;> omega⟩
theorem after {D D' : Dk} {s : Stt} (hs : ∀ f, D.kept = some f → f.safe = true) (h : Crashed (D.save s).1 D' (keysK (D.save s).1.fs)) : D'.calm.kept = if (D.save s).2 = 0 then some ⟨docT s, true⟩ else D.kept := by
  rw [crash_kept h, save_kept]
  intro f hf
  rw [save_kept] at hf
  split at hf
  · cases hf; rfl
  · exact hs f hf

set_option maxHeartbeats 4000000 in
theorem lasts_law (H : AHeap) (l : List St) (arms keeps : List Int) (har : ∀ n ∈ arms, n ≤ 9223372036854775807) : ACalls Tryz.prog 6 [vecA l, vecA arms, vecA keeps] H (fun r _ => r = .v (.bool true)) := by
  refine ACalls.lts fun hlt => ?_
  refine ACalls.of_body tok Tryz.func6 rfl Tryz.ntmps6 (Nat.le_of_ble_eq_true rfl) (fun base => ?_)
  refine rg fun K hK => ?_
  refine st qK725 <| nt (hK _ _ ?_)
  clear hK K
  refine AW.seq_k (fun K1 hK1 => ?_)
  refine rg fun K hK => ?_
  refine st (by exact SD.s rfl rfl rfl (by exact AStepD.callf rfl en8 rfl (anchor_calls _))) <| st (by exact SD.s rfl rfl rfl (by first | exact AStepD.not rfl rfl | exact AStepD.neg rfl rfl (by first | exact IntWalk.i64_in _ (by omega) | exact IntWalk.i64_in _ (by simp only [Bool.or_eq_true, Bool.and_eq_true, Bool.or_eq_false_iff, Bool.and_eq_false_iff, Bool.not_eq_true', Bool.not_eq_false', decide_eq_true_eq, decide_eq_false_iff_not, Int.not_lt, Int.not_le, beq_iff_eq] at *; omega) | exact rfl))) <| nt (hK _ _ ?_)
  clear hK K
  refine AW.cond_false rfl rfl (AW.skip ?_)
  refine hK1 _ _ ?_; try clear hK1 K1
  refine AW.seq_k (fun K2 hK2 => ?_)
  refine rg fun K hK => ?_
  refine st qK726 <| st (by exact SD.s rfl rfl rfl (by exact AStepD.callf rfl en9 rfl (small_calls9 _ l 12))) <| st (by exact SD.s rfl rfl rfl (by first | exact AStepD.not rfl rfl | exact AStepD.neg rfl rfl (by first | exact IntWalk.i64_in _ (by omega) | exact IntWalk.i64_in _ (by simp only [Bool.or_eq_true, Bool.and_eq_true, Bool.or_eq_false_iff, Bool.and_eq_false_iff, Bool.not_eq_true', Bool.not_eq_false', decide_eq_true_eq, decide_eq_false_iff_not, Int.not_lt, Int.not_le, beq_iff_eq] at *; omega) | exact rfl))) <| st qK726 <| st (GW.p (l := [1]) qK731) <| st (GW.p (l := [23]) (by first | exact GW.yes rfl rfl rfl rfl rfl rfl rfl (by exact AStepD.len_sl tok rfl rfl .vec rfl rfl) | exact GW.no rfl rfl rfl rfl rfl rfl rfl | exact GW.none rfl rfl rfl rfl rfl | exact GW.may rfl rfl rfl rfl rfl rfl (fun hb => by (repeat (first | apply UW.yes rfl (gpf hb) | apply UW.no)); exact UW.nil (by exact AStepD.len_sl tok rfl rfl .vec rfl rfl)) | exact GW.may2 rfl rfl rfl rfl rfl rfl (fun _ hb => by (repeat (first | apply UW.yes rfl (gpf hb) | apply UW.no)); exact UW.nil (by exact AStepD.len_sl tok rfl rfl .vec rfl rfl)))) <| st (GW.p (l := [24]) qK1011) <| st qK730 <| st qK726 <| st (GW.p (l := [2]) qK731) <| st (GW.p (l := [28]) (by first | exact GW.yes rfl rfl rfl rfl rfl rfl rfl (by exact AStepD.len_sl tok rfl rfl .vec rfl rfl) | exact GW.no rfl rfl rfl rfl rfl rfl rfl | exact GW.none rfl rfl rfl rfl rfl | exact GW.may rfl rfl rfl rfl rfl rfl (fun hb => by (repeat (first | apply UW.yes rfl (gpf hb) | apply UW.no)); exact UW.nil (by exact AStepD.len_sl tok rfl rfl .vec rfl rfl)) | exact GW.may2 rfl rfl rfl rfl rfl rfl (fun _ hb => by (repeat (first | apply UW.yes rfl (gpf hb) | apply UW.no)); exact UW.nil (by exact AStepD.len_sl tok rfl rfl .vec rfl rfl)))) <| st (GW.p (l := [29]) qK1011) <| st qK730 <| nt (hK _ _ ?_)
  clear hK K
  refine AW.cond _ rfl (fun hc => ?_) (fun hc => ?_)
  · refine rg fun K hK => ?_
    refine st qK725 <| nt (hK _ _ ?_)
    clear hK K
    exact AW.ret (RetQ.mk (.inr rfl) (retA_tmp rfl qK71 retA_nil) rfl)
  have hg : smallB l 12 = true ∧ arms.length ≤ 20 ∧ keeps.length ≤ 50 := by
    simp only [Bool.or_eq_false_iff, Bool.not_eq_false', decide_eq_false_iff_not, Int.not_lt] at hc
    simp_all
    omega
  clear hc
  obtain ⟨hsm, ha20, hk50⟩ := hg
  have hll : l.length ≤ 12 := by
    simp only [smallB, Bool.and_eq_true, decide_eq_true_eq] at hsm
    omega
  refine AW.skip ?_
  refine hK2 _ _ ?_; try clear hK2 K2
  refine rg fun K hK => ?_
  refine AL.call rfl rfl rfl (AStep.callf rfl en10 (new_calls _ 65536 (by decide) (by decide))) ?_; rintro _ H1 ⟨rfl, h1, hk1, hn1⟩; replace hn1 : H.next + 1 < H1.next := by omega
  refine st qK725 <| nt (hK _ _ ?_)
  clear hK K
  have hf0 := D0_fine (room := 65536) (by decide)
  refine AW.seq_k (fun K3 hK3 => ?_)
  refine rg fun K hK => ?_
  refine st qK726 <| st (by exact SD.s rfl rfl rfl qK712) <| nt (hK _ _ ?_)
  clear hK K
  refine AW.cond_false rfl rfl (AW.skip ?_)
  refine hK3 _ _ ?_; try clear hK3 K3
  refine rg fun K hK => ?_
  refine st qK721 <| nt (hK _ _ ?_)
  clear hK K
  rw [zS_zero]
  refine rg fun K hK => ?_
  refine st qK725 <| nt (hK _ _ ?_)
  clear hK K
  refine AW.seq_k (fun K4 hK4 => ?_)
  refine rg fun K hK => ?_
  refine st qK726 <| st (by exact SD.s rfl rfl rfl (by exact AStepD.len_sl tok rfl rfl .vec rfl rfl)) <| st qK726 <| nt (hK _ _ ?_)
  clear hK K
  have h1d := h1.d
  have h1m := h1.m
  refine AW.block ?_
  refine AW.loop_at (ι := Nat × Bool) (fun x => [(37, .v (.int .i64 (x.1 : Nat))), (36, .v (.int .i64 (l.length : Nat))), (35, vecA l), (9, .v (.bool x.2)), (8, .ptr H1.next 0), (7, .ptr (H.next + 1) 0), (2, vecA keeps), (1, vecA arms)])
    (fun x H' => x.1 ≤ l.length ∧ (∃ D s y, LastI H' (H.next + 1) H.next H1.next D s y x.2) ∧ H1.next < H'.next) (fun x => l.length - x.1) (0, false) qK718
    ⟨Nat.zero_le _, ⟨D0 65536, zS, .v (.slice none 0 0), ⟨qK720, qK720⟩, hf0, rfl, qK720, zS_ok, rfl, fun _ => rfl, fun h => by cases h⟩, qK714⟩ ?_
  rintro ⟨i, saved⟩ H2 ⟨hi, ⟨D, s, y, hI⟩, hn2⟩
  have hi : i ≤ l.length := hi
  have hI : LastI H2 (H.next + 1) H.next H1.next D s y saved := hI
  refine rg fun K hK => ?_
  refine st qK109 <| nt (hK _ _ ?_)
  clear hK K
  refine AW.seq_k (fun K5 hK5 => ?_)
  refine AW.cond _ rfl (fun hc => ?_) (fun hc => ?_)
  · (try simp only [Bool.or_eq_true, Bool.and_eq_true, Bool.or_eq_false_iff, Bool.and_eq_false_iff, Bool.not_eq_true', Bool.not_eq_false', decide_eq_true_eq, decide_eq_false_iff_not, Int.not_lt, Int.not_le] at hc)
    have hil : i < l.length := by omega
    have hok := l[i].2
    have hId := hI.dk.d
    have hIm := hI.dk.m
    have hIc := hI.cell
    refine AW.skip ?_
    refine hK5 _ _ ?_; try clear hK5 K5
    refine AW.seq_k (fun K6 hK6 => ?_)
    refine AW.block ?_
    refine rg fun K hK => ?_
    refine st qK726 <| st (by exact SD.s rfl rfl rfl qK719) <| st (by exact SD.s rfl rfl rfl qK727) <| st qK721 <| st qK725 <| st0 (by exact ⟨rfl, rfl, (by exact st_store hok rfl rfl rfl qK720 zS_len rfl)⟩) <| nt (hK _ _ ?_)
    clear hK K
    refine AW.seq_k (fun K7 hK7 => ?_)
    refine rg fun K hK => ?_
    refine st (by exact SD.s rfl rfl rfl (by exact st_load hok rfl rfl qK720)) <| st (by exact SD.s rfl rfl rfl (by exact AStepD.callf rfl en20 rfl (right_calls _ l[i].1 hok))) <| st (by exact SD.s rfl rfl rfl (by first | exact AStepD.not rfl rfl | exact AStepD.neg rfl rfl (by first | exact IntWalk.i64_in _ (by omega) | exact IntWalk.i64_in _ (by simp only [Bool.or_eq_true, Bool.and_eq_true, Bool.or_eq_false_iff, Bool.and_eq_false_iff, Bool.not_eq_true', Bool.not_eq_false', decide_eq_true_eq, decide_eq_false_iff_not, Int.not_lt, Int.not_le, beq_iff_eq] at *; omega) | exact rfl))) <| nt (hK _ _ ?_)
    clear hK K
    refine AW.cond _ rfl (fun hc => ?_) (fun hc => ?_)
    · refine AW.exit ?_
      refine hK6 _ _ ?_; try clear hK6 K6
      refine AW.region ?_
      refine st (by exact SD.s rfl rfl rfl (by first | exact AStepD.add rfl rfl rfl (by first | exact IntWalk.i64_in _ (by omega) | exact IntWalk.i64_in _ (by simp only [Bool.or_eq_true, Bool.and_eq_true, Bool.or_eq_false_iff, Bool.and_eq_false_iff, Bool.not_eq_true', Bool.not_eq_false', decide_eq_true_eq, decide_eq_false_iff_not, Int.not_lt, Int.not_le, beq_iff_eq] at *; omega) | exact rfl) | exact AStepD.str_add rfl rfl rfl (by omega))) <| st qK726 <| AL.nil ?_
      exact ⟨(i + 1, saved), by show l.length - (i + 1) < l.length - i; omega, qK718, by show i + 1 ≤ l.length; omega, ⟨D, s, y, hI.keep qK723 qK723 qK723⟩, qK714⟩
    have hr : rightB l[i].1 = true := by simpa using hc
    clear hc
    refine AW.skip ?_
    refine hK7 _ _ ?_; try clear hK7 K7
    refine AW.cut (fun T' H' => ∃ E : Dk, DkAt H' (H.next + 1) H.next E ∧ E.Fine ∧ E.kept = D.kept ∧ Only (· = H.next + 1) ((H2.new (.cells 34 (AV.ofV (tt 34).zero))).set H2.next (.cells 34 (l[i].1.cs (vecA l[i].1.known)))) H' ∧ SubT T' [(37, .v (.int .i64 (i : Nat))), (36, .v (.int .i64 (l.length : Nat))), (35, vecA l), (11, .ptr H2.next 0), (10, .v (.int .i64 (i : Nat))), (9, .v (.bool saved)), (8, .ptr H1.next 0), (7, .ptr (H.next + 1) 0), (2, vecA keeps), (1, vecA arms)]) ?_ ?_
    · refine rg fun K hK => ?_
      refine st qK726 <| st qK726 <| st (by exact SD.s rfl rfl rfl (by exact AStepD.len_sl tok rfl rfl .vec rfl rfl)) <| st qK109 <| nt (hK _ _ ?_)
      clear hK K
      refine AW.cond _ rfl (fun hc => ?_) (fun hc => ?_)
      · (try simp only [Bool.or_eq_true, Bool.and_eq_true, Bool.or_eq_false_iff, Bool.and_eq_false_iff, Bool.not_eq_true', Bool.not_eq_false', decide_eq_true_eq, decide_eq_false_iff_not, Int.not_lt, Int.not_le] at hc)
        have hia : i < arms.length := by omega
        refine AW.region ?_
        refine st qK726 <| st qK726 <| st qK726 <| st (by exact SD.s rfl rfl rfl qK103) <| st (by exact SD.s rfl rfl rfl (by first | exact AStepD.load_one tok rfl rfl rfl rfl qK720 rfl qK104 | exact AStepD.load_one_ip tok rfl rfl rfl rfl rfl qK104)) <| ?_
        refine AL.call rfl rfl rfl (AStep.callf rfl en21 (arm_calls _ (H.next + 1) H.next D arms[i] ⟨qK720, qK720⟩)) ?_; rintro _ H3 ⟨h3, o3⟩
        refine AL.nil ?_
        exact ⟨D.arm arms[i], h3, arm_fine hI.fine (har _ (List.getElem_mem hia)), rfl, o3, qK718⟩
      · refine AW.skip ?_
        exact ⟨D, ⟨qK720, qK720⟩, hI.fine, rfl, Only.refl _ _, qK718⟩
    rintro T' H3 ⟨E, hE, hEf, hEk, o3, hs⟩
    refine AW.sub hs ?_
    have hn3 := o3.nx
    simp only [za, zb, zc] at hn3
    have hx11 : H3.get H2.next = some (.cells 34 (l[i].1.cs (vecA l[i].1.known))) := (o3.gt _ qK714 (by omega)).trans qK720
    have hx8 : H3.get H1.next = some (.cells 34 (s.cs y)) := (o3.gt _ qK714 (by omega)).trans qK720
    refine rg fun K hK => ?_
    refine st qK726 <| st (by exact SD.s rfl rfl rfl (by exact st_load hok rfl rfl hx11)) <| ?_
    refine AL.call rfl rfl rfl (AStep.callf rfl en12 (save_calls _ (H.next + 1) H.next E l[i].1 hok hE hEf)) ?_; rintro _ H4 ⟨rfl, h4, o4⟩
    refine st qK725 <| nt (hK _ _ ?_)
    clear hK K
    have hn4 := o4.nx
    have h4x11 : H4.get H2.next = some (.cells 34 (l[i].1.cs (vecA l[i].1.known))) := (o4.gt _ qK714 (by rintro (e | e) <;> omega)).trans hx11
    have h4x8 : H4.get H1.next = some (.cells 34 (s.cs y)) := (o4.gt _ qK714 (by rintro (e | e) <;> omega)).trans hx8
    have hef4 := hEf.save l[i].1
    refine rg fun K hK => ?_
    refine st qK726 <| st qK726 <| ?_
    refine AL.call rfl rfl rfl (AStep.callf rfl en22 (crash_calls _ (H.next + 1) H.next (E.save l[i].1).1 keeps h4 hef4.ok (by omega))) ?_; rintro r5 H5 ⟨D', h5, hcr, o5⟩
    refine nt (hK _ _ ?_)
    clear hK K
    have hn5 := o5.nx
    have h5x11 : H5.get H2.next = some (.cells 34 (l[i].1.cs (vecA l[i].1.known))) := (o5.gt _ qK714 (by rintro (e | e) <;> omega)).trans h4x11
    have h5x8 : H5.get H1.next = some (.cells 34 (s.cs y)) := (o5.gt _ qK714 (by rintro (e | e) <;> omega)).trans h4x8
    have h5 : DkAt H5 (H.next + 1) H.next D'.calm := h5
    have h5f := crash_fine hcr hef4
    have hEs : ∀ f, E.kept = some f → f.safe = true := by rw [hEk]; exact hI.safe
    have h5k := after hEs hcr
    rw [hEk] at h5k
    have h5d := h5.d
    have h5m := h5.m
    have hlk := load_kept (D := D'.calm) rfl
    have hlo := load_ok D'.calm
    refine rg fun K hK => ?_
    refine st qK726 <| st (by exact SD.s rfl rfl rfl (by exact AStepD.callf rfl en15 rfl (load_calls _ (H.next + 1) H.next D'.calm h5 h5f))) <| st qK726 <| st qK722 <| st qK722 <| st qK721 <| st0 (by exact ⟨rfl, rfl, (by exact st_store hlo rfl rfl rfl qK720 zS_len rfl)⟩) <| st qK725 <| nt (hK _ _ ?_)
    clear hK K
    obtain ⟨got, hgot⟩ : ∃ got, got = D'.calm.load.1 := ⟨_, rfl⟩
    obtain ⟨f, hf⟩ : ∃ f, f = D'.calm.load.2 := ⟨_, rfl⟩
    obtain ⟨e, he⟩ : ∃ e, e = (E.save l[i].1).2 := ⟨_, rfl⟩
    rw [← hgot, ← hf]
    rw [← hgot] at hlo
    have hA : e = 0 → f = 0 ∧ got = l[i].1 := by
      intro h0
      rw [he] at h0
      rw [if_pos h0] at h5k
      have := load_doc (D := D'.calm) rfl hok hr h5k
      rw [hf, hgot, this]; exact ⟨rfl, rfl⟩
    have hB : e ≠ 0 → D'.calm.kept = D.kept := by
      intro h0
      rw [he] at h0
      rw [if_neg h0] at h5k; exact h5k
    have hC : e ≠ 0 → saved = true → f = 0 ∧ got = s := by
      intro h0 h1
      have hy := hI.yes h1
      have := load_doc (D := D'.calm) rfl hI.ok hy.2.2 ((hB h0).trans hy.1)
      rw [hf, hgot, this]; exact ⟨rfl, rfl⟩
    have hDn : e ≠ 0 → saved = false → f = 52 := by
      intro h0 h1
      rw [hf, hlk, hB h0, hI.no h1]
    obtain ⟨H6, hH6⟩ : ∃ H6, H6 = (H5.new (.cells 34 (AV.ofV (tt 34).zero))).set H5.next (.cells 34 (got.cs (vecA got.known))) := ⟨_, rfl⟩
    rw [← hH6, ← he]
    have h6x13 : H6.get H5.next = some (.cells 34 (got.cs (vecA got.known))) := by rw [hH6]; exact AHeap.get_set_same _ _ _
    have h6x11 : H6.get H2.next = some (.cells 34 (l[i].1.cs (vecA l[i].1.known))) := by rw [hH6]; exact qK720
    have h6x8 : H6.get H1.next = some (.cells 34 (s.cs y)) := by rw [hH6]; exact qK720
    have h6d : DkAt H6 (H.next + 1) H.next D'.calm := by rw [hH6]; exact h5.same qK723 qK723
    have hn6 : H1.next < H6.next := by rw [hH6]; exact qK714
    clear hH6
    obtain ⟨b1, e1⟩ : ∃ b, decide (f = 0) = b := ⟨_, rfl⟩
    obtain ⟨b2, e2⟩ : ∃ b, decide (got = s) = b := ⟨_, rfl⟩
    obtain ⟨b3, e3⟩ : ∃ b, decide (f = 52) = b := ⟨_, rfl⟩
    obtain ⟨b4, e4⟩ : ∃ b, decide (got = l[i].1) = b := ⟨_, rfl⟩
    obtain ⟨b5, e5⟩ : ∃ b, decide (e = 0) = b := ⟨_, rfl⟩
    have hbad : ((b5 && !(b1 && b4)) || (!((saved && b1 && b2) || (!saved && b3)) && !(b1 && b4))) = false := by
      by_cases h0 : e = 0
      · obtain ⟨q1, q2⟩ := hA h0
        have : b1 = true := by rw [← e1]; exact decide_eq_true q1
        have : b4 = true := by rw [← e4]; exact decide_eq_true q2
        simp [*]
      · have k5 : b5 = false := by rw [← e5]; exact decide_eq_false h0
        cases saved with
        | true =>
          obtain ⟨q1, q2⟩ := hC h0 rfl
          have k1 : b1 = true := by rw [← e1]; exact decide_eq_true q1
          have k2 : b2 = true := by rw [← e2]; exact decide_eq_true q2
          rw [k1, k2, k5]; rfl
        | false =>
          have k3 : b3 = true := by rw [← e3]; exact decide_eq_true (hDn h0 rfl)
          rw [k3, k5]; simp
    have hyv : saved = true → y = vecA s.known := fun h => (hI.yes h).2.1
    refine AW.cut (fun T' Hq => Hq = H6 ∧ SubT T' [(15, .v (.bool ((saved && b1 && b2) || (!saved && b3)))), (14, .v (.int .i64 f)), (13, .ptr H5.next 0), (12, .v (.int .i64 e)), (37, .v (.int .i64 (i : Nat))), (36, .v (.int .i64 (l.length : Nat))), (35, vecA l), (11, .ptr H2.next 0), (9, .v (.bool saved)), (8, .ptr H1.next 0), (7, .ptr (H.next + 1) 0), (2, vecA keeps), (1, vecA arms)]) ?_ ?_
    · clear hbad e4 e5 hA hB hC hDn
      cases saved <;> (try obtain rfl := hyv rfl) <;> cases b1 <;> cases b2 <;> cases b3
      all_goals
        refine AW.region ?_
        refine st qK726 <| st qK726 <| st (GW.p (l := [14]) qK731) <| st (GW.p (l := [68]) (by first | exact GW.yes rfl rfl rfl rfl rfl rfl rfl (by exact AStepD.bool (AStepD.eql rfl rfl rfl) e1) | exact GW.no rfl rfl rfl rfl rfl rfl rfl | exact GW.none rfl rfl rfl rfl rfl | exact GW.may rfl rfl rfl rfl rfl rfl (fun hb => by (repeat (first | apply UW.yes rfl (gpf hb) | apply UW.no)); exact UW.nil (by exact AStepD.bool (AStepD.eql rfl rfl rfl) e1)) | exact GW.may2 rfl rfl rfl rfl rfl rfl (fun _ hb => by (repeat (first | apply UW.yes rfl (gpf hb) | apply UW.no)); exact UW.nil (by exact AStepD.bool (AStepD.eql rfl rfl rfl) e1)))) <| st qK730 <| st qK726 <| st (GW.p (l := [13]) (by first | exact GW.yes rfl rfl rfl rfl rfl rfl rfl (by exact st_load hlo rfl rfl h6x13) | exact GW.no rfl rfl rfl rfl rfl rfl rfl | exact GW.none rfl rfl rfl rfl rfl | exact GW.may rfl rfl rfl rfl rfl rfl (fun hb => by (repeat (first | apply UW.yes rfl (gpf hb) | apply UW.no)); exact UW.nil (by exact st_load hlo rfl rfl h6x13)) | exact GW.may2 rfl rfl rfl rfl rfl rfl (fun _ hb => by (repeat (first | apply UW.yes rfl (gpf hb) | apply UW.no)); exact UW.nil (by exact st_load hlo rfl rfl h6x13)))) <| st (GW.p (l := [8]) (by first | exact GW.yes rfl rfl rfl rfl rfl rfl rfl (by exact st_load hI.ok rfl rfl h6x8) | exact GW.no rfl rfl rfl rfl rfl rfl rfl | exact GW.none rfl rfl rfl rfl rfl | exact GW.may rfl rfl rfl rfl rfl rfl (fun hb => by (repeat (first | apply UW.yes rfl (gpf hb) | apply UW.no)); exact UW.nil (by exact st_load hI.ok rfl rfl h6x8)) | exact GW.may2 rfl rfl rfl rfl rfl rfl (fun _ hb => by (repeat (first | apply UW.yes rfl (gpf hb) | apply UW.no)); exact UW.nil (by exact st_load hI.ok rfl rfl h6x8)))) <| st (GW.p (l := [72, 73]) (by first | exact GW.yes rfl rfl rfl rfl rfl rfl rfl (by exact AStepD.bool (AStepD.callf rfl en16 rfl (same_calls _ got s hlo hI.ok)) e2) | exact GW.no rfl rfl rfl rfl rfl rfl rfl | exact GW.none rfl rfl rfl rfl rfl | exact GW.may rfl rfl rfl rfl rfl rfl (fun hb => by (repeat (first | apply UW.yes rfl (gpf hb) | apply UW.no)); exact UW.nil (by exact AStepD.bool (AStepD.callf rfl en16 rfl (same_calls _ got s hlo hI.ok)) e2)) | exact GW.may2 rfl rfl rfl rfl rfl rfl (fun _ hb => by (repeat (first | apply UW.yes rfl (gpf hb) | apply UW.no)); exact UW.nil (by exact AStepD.bool (AStepD.callf rfl en16 rfl (same_calls _ got s hlo hI.ok)) e2)))) <| st qK730 <| st qK726 <| st (GW.p (l := [9]) qK731) <| st (GW.p (l := [77]) (by first | exact GW.yes rfl rfl rfl rfl rfl rfl rfl (by first | exact AStepD.not rfl rfl | exact AStepD.neg rfl rfl (by first | exact IntWalk.i64_in _ (by omega) | exact IntWalk.i64_in _ (by simp only [Bool.or_eq_true, Bool.and_eq_true, Bool.or_eq_false_iff, Bool.and_eq_false_iff, Bool.not_eq_true', Bool.not_eq_false', decide_eq_true_eq, decide_eq_false_iff_not, Int.not_lt, Int.not_le, beq_iff_eq] at *; omega) | exact rfl)) | exact GW.no rfl rfl rfl rfl rfl rfl rfl | exact GW.none rfl rfl rfl rfl rfl | exact GW.may rfl rfl rfl rfl rfl rfl (fun hb => by (repeat (first | apply UW.yes rfl (gpf hb) | apply UW.no)); exact UW.nil (by first | exact AStepD.not rfl rfl | exact AStepD.neg rfl rfl (by first | exact IntWalk.i64_in _ (by omega) | exact IntWalk.i64_in _ (by simp only [Bool.or_eq_true, Bool.and_eq_true, Bool.or_eq_false_iff, Bool.and_eq_false_iff, Bool.not_eq_true', Bool.not_eq_false', decide_eq_true_eq, decide_eq_false_iff_not, Int.not_lt, Int.not_le, beq_iff_eq] at *; omega) | exact rfl))) | exact GW.may2 rfl rfl rfl rfl rfl rfl (fun _ hb => by (repeat (first | apply UW.yes rfl (gpf hb) | apply UW.no)); exact UW.nil (by first | exact AStepD.not rfl rfl | exact AStepD.neg rfl rfl (by first | exact IntWalk.i64_in _ (by omega) | exact IntWalk.i64_in _ (by simp only [Bool.or_eq_true, Bool.and_eq_true, Bool.or_eq_false_iff, Bool.and_eq_false_iff, Bool.not_eq_true', Bool.not_eq_false', decide_eq_true_eq, decide_eq_false_iff_not, Int.not_lt, Int.not_le, beq_iff_eq] at *; omega) | exact rfl))))) <| st (GW.p (l := [78]) qK731) <| st (GW.p (l := [14]) qK731) <| st (GW.p (l := [80]) (by first | exact GW.yes rfl rfl rfl rfl rfl rfl rfl (by exact AStepD.bool (AStepD.eql rfl rfl rfl) e3) | exact GW.no rfl rfl rfl rfl rfl rfl rfl | exact GW.none rfl rfl rfl rfl rfl | exact GW.may rfl rfl rfl rfl rfl rfl (fun hb => by (repeat (first | apply UW.yes rfl (gpf hb) | apply UW.no)); exact UW.nil (by exact AStepD.bool (AStepD.eql rfl rfl rfl) e3)) | exact GW.may2 rfl rfl rfl rfl rfl rfl (fun _ hb => by (repeat (first | apply UW.yes rfl (gpf hb) | apply UW.no)); exact UW.nil (by exact AStepD.bool (AStepD.eql rfl rfl rfl) e3)))) <| st (GW.p (l := [79, 81]) qK1010) <| st qK730 <| st qK725 <| AL.nil ?_
        exact ⟨rfl, qK718⟩
    rintro T' H7 ⟨rfl, hs⟩
    refine AW.sub hs ?_
    clear hs
    generalize hold : ((saved && b1 && b2) || (!saved && b3)) = old at hbad ⊢
    refine AW.cut (fun T' Hq => Hq = H7 ∧ SubT T' [(16, .v (.bool (b1 && b4))), (15, .v (.bool old)), (12, .v (.int .i64 e)), (37, .v (.int .i64 (i : Nat))), (36, .v (.int .i64 (l.length : Nat))), (35, vecA l), (11, .ptr H2.next 0), (9, .v (.bool saved)), (8, .ptr H1.next 0), (7, .ptr (H.next + 1) 0), (2, vecA keeps), (1, vecA arms)]) ?_ ?_
    · cases b1 <;> cases b4
      all_goals
        refine AW.region ?_
        refine st qK726 <| st (by exact SD.s rfl rfl rfl (by exact AStepD.bool (AStepD.eql rfl rfl rfl) e1)) <| st qK726 <| st (GW.p (l := [13]) (by first | exact GW.yes rfl rfl rfl rfl rfl rfl rfl (by exact st_load hlo rfl rfl h6x13) | exact GW.no rfl rfl rfl rfl rfl rfl rfl | exact GW.none rfl rfl rfl rfl rfl | exact GW.may rfl rfl rfl rfl rfl rfl (fun hb => by (repeat (first | apply UW.yes rfl (gpf hb) | apply UW.no)); exact UW.nil (by exact st_load hlo rfl rfl h6x13)) | exact GW.may2 rfl rfl rfl rfl rfl rfl (fun _ hb => by (repeat (first | apply UW.yes rfl (gpf hb) | apply UW.no)); exact UW.nil (by exact st_load hlo rfl rfl h6x13)))) <| st (GW.p (l := [11]) (by first | exact GW.yes rfl rfl rfl rfl rfl rfl rfl (by exact st_load hok rfl rfl h6x11) | exact GW.no rfl rfl rfl rfl rfl rfl rfl | exact GW.none rfl rfl rfl rfl rfl | exact GW.may rfl rfl rfl rfl rfl rfl (fun hb => by (repeat (first | apply UW.yes rfl (gpf hb) | apply UW.no)); exact UW.nil (by exact st_load hok rfl rfl h6x11)) | exact GW.may2 rfl rfl rfl rfl rfl rfl (fun _ hb => by (repeat (first | apply UW.yes rfl (gpf hb) | apply UW.no)); exact UW.nil (by exact st_load hok rfl rfl h6x11)))) <| st (GW.p (l := [87, 88]) (by first | exact GW.yes rfl rfl rfl rfl rfl rfl rfl (by exact AStepD.bool (AStepD.callf rfl en16 rfl (same_calls _ got l[i].1 hlo hok)) e4) | exact GW.no rfl rfl rfl rfl rfl rfl rfl | exact GW.none rfl rfl rfl rfl rfl | exact GW.may rfl rfl rfl rfl rfl rfl (fun hb => by (repeat (first | apply UW.yes rfl (gpf hb) | apply UW.no)); exact UW.nil (by exact AStepD.bool (AStepD.callf rfl en16 rfl (same_calls _ got l[i].1 hlo hok)) e4)) | exact GW.may2 rfl rfl rfl rfl rfl rfl (fun _ hb => by (repeat (first | apply UW.yes rfl (gpf hb) | apply UW.no)); exact UW.nil (by exact AStepD.bool (AStepD.callf rfl en16 rfl (same_calls _ got l[i].1 hlo hok)) e4)))) <| st qK730 <| st qK725 <| AL.nil ?_
        exact ⟨rfl, qK718⟩
    rintro T' H8 ⟨rfl, hs⟩
    refine AW.sub hs ?_
    clear hs
    have hnow : (b1 && b4) = true → D'.calm.kept = some ⟨docT l[i].1, true⟩ := by
      intro h
      simp only [Bool.and_eq_true] at h
      have q1 : f = 0 := of_decide_eq_true (e1.trans h.1)
      have q2 : got = l[i].1 := of_decide_eq_true (e4.trans h.2)
      by_cases h0 : e = 0
      · rw [h5k, if_pos (he ▸ h0)]
      · cases saved with
        | false => have := hDn h0 rfl; omega
        | true =>
          obtain ⟨_, q3⟩ := hC h0 rfl
          rw [hB h0, (hI.yes rfl).1, ← q3, q2]
    have hnot : (b1 && b4) = false → D'.calm.kept = D.kept := by
      intro h
      refine hB fun h0 => ?_
      obtain ⟨q1, q2⟩ := hA h0
      rw [← e1, ← e4, decide_eq_true q1, decide_eq_true q2] at h
      cases h
    generalize (b1 && b4) = now at hbad hnow hnot ⊢
    refine AW.cut (fun T' Hq => Hq = H8 ∧ SubT T' [(16, .v (.bool now)), (37, .v (.int .i64 (i : Nat))), (36, .v (.int .i64 (l.length : Nat))), (35, vecA l), (11, .ptr H2.next 0), (9, .v (.bool saved)), (8, .ptr H1.next 0), (7, .ptr (H.next + 1) 0), (2, vecA keeps), (1, vecA arms)]) ?_ ?_
    · cases b5 <;> cases now <;> cases old <;> (try (exact absurd hbad (by decide)))
      all_goals
        refine rg fun K hK => ?_
        refine st qK726 <| st (by exact SD.s rfl rfl rfl (by exact AStepD.bool (AStepD.eql rfl rfl rfl) e5)) <| st qK726 <| st (GW.p (l := [16]) qK731) <| st (GW.p (l := [94]) (by first | exact GW.yes rfl rfl rfl rfl rfl rfl rfl (by first | exact AStepD.not rfl rfl | exact AStepD.neg rfl rfl (by first | exact IntWalk.i64_in _ (by omega) | exact IntWalk.i64_in _ (by simp only [Bool.or_eq_true, Bool.and_eq_true, Bool.or_eq_false_iff, Bool.and_eq_false_iff, Bool.not_eq_true', Bool.not_eq_false', decide_eq_true_eq, decide_eq_false_iff_not, Int.not_lt, Int.not_le, beq_iff_eq] at *; omega) | exact rfl)) | exact GW.no rfl rfl rfl rfl rfl rfl rfl | exact GW.none rfl rfl rfl rfl rfl | exact GW.may rfl rfl rfl rfl rfl rfl (fun hb => by (repeat (first | apply UW.yes rfl (gpf hb) | apply UW.no)); exact UW.nil (by first | exact AStepD.not rfl rfl | exact AStepD.neg rfl rfl (by first | exact IntWalk.i64_in _ (by omega) | exact IntWalk.i64_in _ (by simp only [Bool.or_eq_true, Bool.and_eq_true, Bool.or_eq_false_iff, Bool.and_eq_false_iff, Bool.not_eq_true', Bool.not_eq_false', decide_eq_true_eq, decide_eq_false_iff_not, Int.not_lt, Int.not_le, beq_iff_eq] at *; omega) | exact rfl))) | exact GW.may2 rfl rfl rfl rfl rfl rfl (fun _ hb => by (repeat (first | apply UW.yes rfl (gpf hb) | apply UW.no)); exact UW.nil (by first | exact AStepD.not rfl rfl | exact AStepD.neg rfl rfl (by first | exact IntWalk.i64_in _ (by omega) | exact IntWalk.i64_in _ (by simp only [Bool.or_eq_true, Bool.and_eq_true, Bool.or_eq_false_iff, Bool.and_eq_false_iff, Bool.not_eq_true', Bool.not_eq_false', decide_eq_true_eq, decide_eq_false_iff_not, Int.not_lt, Int.not_le, beq_iff_eq] at *; omega) | exact rfl))))) <| st qK730 <| st qK726 <| st (GW.p (l := [15]) qK731) <| st (GW.p (l := [98]) (by first | exact GW.yes rfl rfl rfl rfl rfl rfl rfl (by first | exact AStepD.not rfl rfl | exact AStepD.neg rfl rfl (by first | exact IntWalk.i64_in _ (by omega) | exact IntWalk.i64_in _ (by simp only [Bool.or_eq_true, Bool.and_eq_true, Bool.or_eq_false_iff, Bool.and_eq_false_iff, Bool.not_eq_true', Bool.not_eq_false', decide_eq_true_eq, decide_eq_false_iff_not, Int.not_lt, Int.not_le, beq_iff_eq] at *; omega) | exact rfl)) | exact GW.no rfl rfl rfl rfl rfl rfl rfl | exact GW.none rfl rfl rfl rfl rfl | exact GW.may rfl rfl rfl rfl rfl rfl (fun hb => by (repeat (first | apply UW.yes rfl (gpf hb) | apply UW.no)); exact UW.nil (by first | exact AStepD.not rfl rfl | exact AStepD.neg rfl rfl (by first | exact IntWalk.i64_in _ (by omega) | exact IntWalk.i64_in _ (by simp only [Bool.or_eq_true, Bool.and_eq_true, Bool.or_eq_false_iff, Bool.and_eq_false_iff, Bool.not_eq_true', Bool.not_eq_false', decide_eq_true_eq, decide_eq_false_iff_not, Int.not_lt, Int.not_le, beq_iff_eq] at *; omega) | exact rfl))) | exact GW.may2 rfl rfl rfl rfl rfl rfl (fun _ hb => by (repeat (first | apply UW.yes rfl (gpf hb) | apply UW.no)); exact UW.nil (by first | exact AStepD.not rfl rfl | exact AStepD.neg rfl rfl (by first | exact IntWalk.i64_in _ (by omega) | exact IntWalk.i64_in _ (by simp only [Bool.or_eq_true, Bool.and_eq_true, Bool.or_eq_false_iff, Bool.and_eq_false_iff, Bool.not_eq_true', Bool.not_eq_false', decide_eq_true_eq, decide_eq_false_iff_not, Int.not_lt, Int.not_le, beq_iff_eq] at *; omega) | exact rfl))))) <| st (GW.p (l := [99]) qK731) <| st (GW.p (l := [16]) qK731) <| st (GW.p (l := [101]) (by first | exact GW.yes rfl rfl rfl rfl rfl rfl rfl (by first | exact AStepD.not rfl rfl | exact AStepD.neg rfl rfl (by first | exact IntWalk.i64_in _ (by omega) | exact IntWalk.i64_in _ (by simp only [Bool.or_eq_true, Bool.and_eq_true, Bool.or_eq_false_iff, Bool.and_eq_false_iff, Bool.not_eq_true', Bool.not_eq_false', decide_eq_true_eq, decide_eq_false_iff_not, Int.not_lt, Int.not_le, beq_iff_eq] at *; omega) | exact rfl)) | exact GW.no rfl rfl rfl rfl rfl rfl rfl | exact GW.none rfl rfl rfl rfl rfl | exact GW.may rfl rfl rfl rfl rfl rfl (fun hb => by (repeat (first | apply UW.yes rfl (gpf hb) | apply UW.no)); exact UW.nil (by first | exact AStepD.not rfl rfl | exact AStepD.neg rfl rfl (by first | exact IntWalk.i64_in _ (by omega) | exact IntWalk.i64_in _ (by simp only [Bool.or_eq_true, Bool.and_eq_true, Bool.or_eq_false_iff, Bool.and_eq_false_iff, Bool.not_eq_true', Bool.not_eq_false', decide_eq_true_eq, decide_eq_false_iff_not, Int.not_lt, Int.not_le, beq_iff_eq] at *; omega) | exact rfl))) | exact GW.may2 rfl rfl rfl rfl rfl rfl (fun _ hb => by (repeat (first | apply UW.yes rfl (gpf hb) | apply UW.no)); exact UW.nil (by first | exact AStepD.not rfl rfl | exact AStepD.neg rfl rfl (by first | exact IntWalk.i64_in _ (by omega) | exact IntWalk.i64_in _ (by simp only [Bool.or_eq_true, Bool.and_eq_true, Bool.or_eq_false_iff, Bool.and_eq_false_iff, Bool.not_eq_true', Bool.not_eq_false', decide_eq_true_eq, decide_eq_false_iff_not, Int.not_lt, Int.not_le, beq_iff_eq] at *; omega) | exact rfl))))) <| st (GW.p (l := [100, 102]) qK1010) <| st qK730 <| nt (hK _ _ ?_)
        clear hK K
        refine AW.cond_false rfl rfl (AW.skip ?_)
        exact ⟨rfl, qK718⟩
    rintro T' H9 ⟨rfl, hs⟩
    refine AW.sub hs ?_
    refine rg fun K hK => ?_
    refine st qK726 <| nt (hK _ _ ?_)
    clear hK K
    cases now with
    | true =>
      refine AW.cond_true rfl rfl ?_
      refine AW.region ?_
      refine st (by exact SD.s rfl rfl rfl (by exact st_load hok rfl rfl h6x11)) <| st0 (by exact ⟨rfl, rfl, (by exact st_store hok rfl rfl rfl h6x8 (hI.ok.fc _) rfl)⟩) <| st qK725 <| AL.nil ?_
      refine hK6 _ _ ?_; try clear hK6 K6
      refine AW.region ?_
      refine st (by exact SD.s rfl rfl rfl (by first | exact AStepD.add rfl rfl rfl (by first | exact IntWalk.i64_in _ (by omega) | exact IntWalk.i64_in _ (by simp only [Bool.or_eq_true, Bool.and_eq_true, Bool.or_eq_false_iff, Bool.and_eq_false_iff, Bool.not_eq_true', Bool.not_eq_false', decide_eq_true_eq, decide_eq_false_iff_not, Int.not_lt, Int.not_le, beq_iff_eq] at *; omega) | exact rfl) | exact AStepD.str_add rfl rfl rfl (by omega))) <| st qK726 <| AL.nil ?_
      exact ⟨(i + 1, true), by show l.length - (i + 1) < l.length - i; omega, qK718, by show i + 1 ≤ l.length; omega, ⟨D'.calm, l[i].1, vecA l[i].1.known, h6d.same qK723 qK723, h5f, rfl, AHeap.get_set_same _ _ _, hok, rfl, (fun h => by cases h), fun _ => ⟨hnow rfl, rfl, hr⟩⟩, qK714⟩
    | false =>
      refine AW.cond_false rfl rfl (AW.skip ?_)
      refine hK6 _ _ ?_; try clear hK6 K6
      refine AW.region ?_
      refine st (by exact SD.s rfl rfl rfl (by first | exact AStepD.add rfl rfl rfl (by first | exact IntWalk.i64_in _ (by omega) | exact IntWalk.i64_in _ (by simp only [Bool.or_eq_true, Bool.and_eq_true, Bool.or_eq_false_iff, Bool.and_eq_false_iff, Bool.not_eq_true', Bool.not_eq_false', decide_eq_true_eq, decide_eq_false_iff_not, Int.not_lt, Int.not_le, beq_iff_eq] at *; omega) | exact rfl) | exact AStepD.str_add rfl rfl rfl (by omega))) <| st qK726 <| AL.nil ?_
      exact ⟨(i + 1, saved), by show l.length - (i + 1) < l.length - i; omega, qK718, by show i + 1 ≤ l.length; omega, ⟨D'.calm, s, y, h6d, h5f, rfl, h6x8, hI.ok, hI.one, fun h => (hnot rfl).trans (hI.no h), fun h => ⟨(hnot rfl).trans (hI.yes h).1, (hI.yes h).2⟩⟩, qK714⟩
  · (try simp only [Bool.or_eq_true, Bool.and_eq_true, Bool.or_eq_false_iff, Bool.and_eq_false_iff, Bool.not_eq_true', Bool.not_eq_false', decide_eq_true_eq, decide_eq_false_iff_not, Int.not_lt, Int.not_le] at hc)
    refine AW.exit ?_
    refine hK4 _ _ ?_; try clear hK4 K4
    refine rg fun K hK => ?_
    refine st qK725 <| nt (hK _ _ ?_)
    clear hK K
    exact AW.ret (RetQ.mk (.inr rfl) (retA_tmp rfl qK71 retA_nil) rfl)
end Go.Proofs.YtcomjodfkcnjhaaGreatDoor
