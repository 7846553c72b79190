/- The walk of Parse. -/
import Derived.Test.YtcomjodfkcnjhaaGreatDoorCP1
set_option linter.unusedSimpArgs false
set_option linter.unusedVariables false
namespace Go.Proofs.YtcomjodfkcnjhaaGreatDoor
open Go.Ax
open Cel (c)
theorem qP41 {p : Prop} (h : p := by exact AStepD.alloc tok rfl rfl) : p := h
theorem qP42 {p : Prop} (h : p := by rw [List.drop_zero]; exact List.take_of_length_le (by omega)) : p := h
theorem qP43 {p : Prop} (h : p := by exact SD.s rfl rfl rfl qP41) : p := h
set_option linter.unusedSimpArgs false
set_option linter.unusedVariables false
set_option maxRecDepth 20000
open Cel (c)

theorem zS_zero : AV.ofV (tt 34).zero = zS.cs (.v (.slice none 0 0)) := by kernel_rfl
theorem cs_sub (s : Stt) {y y' : AV} (h : SubV y y') : SubV (.agg (s.cs y)) (.agg (s.cs y')) := by
  intro ρ I u hu
  cases hu with
  | @agg cs vs hl hv =>
    refine .agg (by rw [hl]; rfl) fun i a w ha hw => ?_
    match i with
    | 0 => exact hv 0 a w ha hw
    | 1 => exact hv 1 a w ha hw
    | 2 => exact hv 2 a w ha hw
    | 3 => exact hv 3 a w ha hw
    | 4 => exact hv 4 a w ha hw
    | 5 => cases ha; exact h ρ I w (hv 5 y w rfl hw)
    | j + 6 => exact hv (j + 6) a w ha hw
theorem stA_plain (s : Stt) : Plain (stA s) := .agg (s.cs_pl (vecA_plain _))
set_option maxHeartbeats 4000000 in
theorem parseS_calls (H : AHeap) (t : List UInt8) (ht : t.length ≤ 900000) : ACalls Tryz.prog 18 [strA t] H (fun r H' => r = .tup [stA ((parseP t).getD zS), .v (.int .i64 (if (parseP t).isSome then 0 else 60))] ∧ H' = H) := by
  refine ACalls.quiet_keep ?_ (.tup (by simp only [List.forall_mem_cons]; exact ⟨stA_plain _, .v _, fun _ h => absurd h List.not_mem_nil⟩))
  have htl := trim_le t [10]
  obtain ⟨L, hL⟩ : ∃ L, L = splitB 10 (Lib.trimSuffix t [10]) := ⟨_, rfl⟩
  have hLl := splitP_len 10 (Lib.trimSuffix t [10])
  have hLm := split_mem 10 (Lib.trimSuffix t [10])
  have hR : rawP t = readL true zS L := by rw [rawP, hL]
  rw [← hL] at hLl hLm
  refine ACalls.of_body tok Tryz.func18 rfl Tryz.ntmps18 (Nat.le_of_ble_eq_true rfl) (fun base => ?_)
  refine rg fun K hK => ?_
  refine st qP43 <| st qP222 <| nt (hK _ _ ?_)
  clear hK K
  refine rg fun K hK => ?_
  refine st qP43 <| nt (hK _ _ ?_)
  clear hK K
  rw [zS_zero]
  refine AW.seq_k (fun K1 hK1 => ?_)
  refine rg fun K hK => ?_
  refine st qP223 <| st (by exact SD.s rfl rfl rfl (by exact AStepD.callf rfl en45 rfl (trim_calls _ t [10] (by omega)))) <| st (by exact SD.s rfl rfl rfl (by exact AStepD.callf rfl en44 rfl (splitS_calls _ _ 10 (by omega)))) <| st qP224 <| st qP223 <| nt (hK _ _ ?_)
  clear hK K
  rw [← hL]
  refine AW.block ?_
  refine AW.loop_at (ι := Nat) (fun k => [(13, .v (.int .i64 (k : Nat))), (12, .v (.int .i64 (L.length : Nat))), (11, vecA L), (4, .ptr (H.next + 1) 0), (2, .ptr H.next 0), (0, strA t)])
    (fun k H' => k ≤ L.length ∧ ∃ s y, StAt H' (H.next + 1) y s ∧ s.Ok ∧ rawP t = readL (decide (k = 0)) s (L.drop k) ∧ s.known.length ≤ k ∧ H'.get H.next = some (.cells 34 (zS.cs (.v (.slice none 0 0)))) ∧ Keep H H') (fun k => L.length - k) 0 qP217
    ⟨Nat.zero_le _, zS, .v (.slice none 0 0), ⟨(by (try simp only [za, zb, zc, zd, ne_eq]); omega), qP219, .nil⟩, zS_ok, hR, Nat.le_refl _, qP219, qP24⟩ ?_
  rintro k H2 ⟨hk, s, y, hst, ok, hrd, hkn, g0, hkp⟩
  have hn1 := hst.lt
  refine rg fun K hK => ?_
  refine st (by exact SD.s rfl rfl rfl (by exact AStepD.lss rfl rfl rfl)) <| nt (hK _ _ ?_)
  clear hK K
  refine AW.seq_k (fun K2 hK2 => ?_)
  refine AW.cond _ rfl (fun hc => ?_) (fun hc => ?_)
  · (try simp only [Bool.or_eq_true, Bool.and_eq_true, Bool.or_eq_false_iff, Bool.and_eq_false_iff, Bool.not_eq_true', Bool.not_eq_false', decide_eq_true_eq, decide_eq_false_iff_not, Int.not_lt, Int.not_le] at hc)
    have hkl : k < L.length := by omega
    rw [List.drop_eq_getElem_cons hkl, readL] at hrd
    have hll := hLm L[k] (List.getElem_mem hkl)
    obtain ⟨l, hl⟩ : ∃ l, l = L[k] := ⟨_, rfl⟩
    rw [← hl] at hrd hll
    refine AW.skip ?_
    refine hK2 _ _ ?_; try clear hK2 K2
    refine AW.seq_k (fun K3 hK3 => ?_)
    refine AW.block ?_
    refine rg fun K hK => ?_
    refine st qP223 <| st (by exact SD.s rfl rfl rfl qP218) <| st (by exact SD.s rfl rfl rfl qP34) <| st qP222 <| st qP222 <| nt (hK _ _ ?_)
    clear hK K
    rw [← hl]
    have hdk : decide ((k : Int) = 0) = decide (k = 0) := decide_eq_decide.2 (by omega)
    have hrc := read_calls H2 (H.next + 1) y s hst ok (k : Int) l (by omega) (by omega)
    rw [hdk] at hrc
    refine AW.seq_region (fun K hK => ?_)
    refine AL.step rfl rfl rfl qP215 ?_
    refine AL.step rfl rfl rfl qP215 ?_
    refine AL.call rfl rfl rfl (AStep.callf rfl en46 hrc) ?_
    rintro _ H3 ⟨rfl, y3, hst3, hs3⟩
    refine AL.step rfl rfl rfl (by first | exact AStepD.not rfl rfl | exact AStepD.neg rfl rfl (by first | exact IntWalk.i64_in _ (by omega) | exact IntWalk.i64_in _ (by simp only [Bool.or_eq_true, Bool.and_eq_true, Bool.or_eq_false_iff, Bool.and_eq_false_iff, Bool.not_eq_true', Bool.not_eq_false', decide_eq_true_eq, decide_eq_false_iff_not, Int.not_lt, Int.not_le, beq_iff_eq] at *; omega) | exact rfl)) ?_
    refine AL.nil_then (hK _ _ ?_); clear hK K
    have hlb := hst.kn
    have g3 : H3.get H.next = some (.cells 34 (zS.cs (.v (.slice none 0 0)))) := (hs3.keep _ (by omega) (by omega) (hlb.lab_ne (by omega))).trans g0
    have hkp3 : Keep H H3 := ⟨Nat.le_trans hkp.1 hs3.nx, fun q hq => (hs3.keep q (by omega) (by omega) (hlb.lab_ne (by omega))).trans (hkp.2 q hq)⟩
    cases hsp : stepP (decide (k = 0)) s l with
    | none =>
      rw [hsp] at hrd
      have hno : parseP t = none := by rw [parseP, hrd]; rfl
      refine AW.cond_true rfl rfl ?_
      refine rg fun K hK => ?_
      refine st (by exact SD.s rfl rfl rfl (by exact AStepD.val (AStepD.build tok rfl rfl rfl (by decide) rfl (fun _ h => absurd h List.not_mem_nil)) (y := .agg (zS.cs (.v (.slice none 0 0)))) (by rw [zS_zero]))) <| st0 (by exact ⟨rfl, rfl, (by exact AStepD.store' (k := 134) (cs := zS.cs (.v (.slice none 0 0))) (ys := zS.cs (.v (.slice none 0 0))) (zs := zS.cs (.v (.slice none 0 0))) tok rfl rfl g3 rfl rfl (zS.cs_one rfl) rfl (zS_ok.fc _) rfl (by rw [zS_ok.fc]; omega) (over_all (by rw [zS_ok.fc]; rfl)))⟩) <| st qP222 <| nt (hK _ _ ?_)
      clear hK K
      refine AW.ret (RetQ.sub (.inr rfl) (retA_agg (cs := zS.cs (.v (.slice none 0 0))) (zs := zS.cs (.v (.slice none 0 0))) rfl rfl rfl (AHeap.get_set_same _ _ _) rfl (show _ = 134 from rfl) (by rw [zS_ok.fc]; omega) (by rw [List.drop_zero]; exact List.take_of_length_le (by rw [zS_ok.fc]; omega)) (retA_tmp rfl qP21 retA_nil)) (SubV.tup2 (cs_sub zS (SubV.nil_vecA (α := Kn))) (.refl _)) ⟨?_, ?_⟩)
      · rw [hno]; rfl
      · exact hkp3.set (Nat.le_refl _)
    | some s3 =>
      rw [hsp] at hrd hst3
      have ok3 := step_ok ok hsp
      refine AW.cond_false rfl rfl (AW.skip ?_)
      refine hK3 _ _ ?_; try clear hK3 K3
      refine AW.region ?_
      refine st (by exact SD.s rfl rfl rfl (by first | exact AStepD.add rfl rfl rfl (by first | exact IntWalk.i64_in _ (by omega) | exact IntWalk.i64_in _ (by simp only [Bool.or_eq_true, Bool.and_eq_true, Bool.or_eq_false_iff, Bool.and_eq_false_iff, Bool.not_eq_true', Bool.not_eq_false', decide_eq_true_eq, decide_eq_false_iff_not, Int.not_lt, Int.not_le, beq_iff_eq] at *; omega) | exact rfl) | exact AStepD.str_add rfl rfl rfl (by omega))) <| st qP223 <| AL.nil ?_
      refine ⟨k + 1, by omega, qP217, hkl, s3, y3, hst3, ok3, ?_, ?_, g3, hkp3⟩
      · rw [hrd, show decide (k + 1 = 0) = false from decide_eq_false (by omega)]; rfl
      · rw [stepP] at hsp
        split at hsp
        · obtain ⟨n, _, rfl⟩ := Option.map_eq_some_iff.1 hsp
          show s.known.length ≤ k + 1; omega
        · split at hsp
          · obtain ⟨n, _, rfl⟩ := Option.map_eq_some_iff.1 hsp
            show (s.known ++ [_]).length ≤ k + 1
            rw [List.length_append, List.length_singleton]; omega
          · split at hsp
            · split at hsp
              · cases hsp
                show s.known.length ≤ k + 1; omega
              · cases hsp
            · cases hsp
  (try simp only [Bool.or_eq_true, Bool.and_eq_true, Bool.or_eq_false_iff, Bool.and_eq_false_iff, Bool.not_eq_true', Bool.not_eq_false', decide_eq_true_eq, decide_eq_false_iff_not, Int.not_lt, Int.not_le] at hc)
  obtain rfl : k = L.length := by omega
  rw [List.drop_length, readL] at hrd
  have hcl := ok.fc (vecA s.known)
  refine AW.exit ?_
  refine hK1 _ _ ?_; try clear hK1 K1 hK2 K2
  refine AW.vec_cell (X := H.next + 1) (b := H.next + 1 + 1) (pre := [.v (.int .i64 s.id), .v (.int .i64 s.master), .v (.int .i64 s.cur), .v (.int .i64 s.vote), .v (.int .i64 s.cfg)]) (post := s.tab) hst.get hst.kn (by omega) ?_
  have hlb := hst.kn
  have g3 : ((H2.delv y).set (H.next + 1) (.cells 34 (s.cs (vecA s.known)))).get H.next = some (.cells 34 (zS.cs (.v (.slice none 0 0)))) := by
    rw [AHeap.get_set_ne _ _ (by omega), AHeap.delv_get _ (hlb.lab_ne (by omega))]; exact g0
  have g4 : ((H2.delv y).set (H.next + 1) (.cells 34 (s.cs (vecA s.known)))).get (H.next + 1) = some (.cells 34 (s.cs (vecA s.known))) := AHeap.get_set_same _ _ _
  have hkp3 : Keep H ((H2.delv y).set (H.next + 1) (.cells 34 (s.cs (vecA s.known)))) := ⟨by rw [za, zd]; exact hkp.1, fun q hq => by rw [AHeap.get_set_ne _ _ (by omega), AHeap.delv_get _ (hlb.lab_ne (by omega))]; exact hkp.2 q hq⟩
  show AW _ _ _ _ _ ((H2.delv y).set (H.next + 1) (.cells 34 (s.cs (vecA s.known)))) _
  generalize (H2.delv y).set (H.next + 1) (.cells 34 (s.cs (vecA s.known))) = H3 at g3 g4 hkp3
  clear hlb hkp g0 hst hkn hc hLm hLl
  refine AW.seq_k (fun K4 hK4 => ?_)
  refine rg fun K hK => ?_
  refine st (by exact SD.s rfl rfl rfl (by exact AStepD.load_agg (cs := s.cs (vecA s.known)) (zs := s.cs (vecA s.known)) tok rfl rfl rfl g4 rfl (show _ = 134 from rfl) (by omega) qP42)) <| st (by exact SD.s rfl rfl rfl (by exact AStepD.callf rfl en11 rfl (statetext_calls _ s ok))) <| st qP223 <| st qP220 <| st qP220 <| st qP222 <| st qP222 <| nt (hK _ _ ?_)
  clear hK K
  refine rg fun K hK => ?_
  refine st qP223 <| st (by exact SD.s rfl rfl rfl qP23) <| st qP223 <| st (GW.p (l := [7]) qP318) <| st (GW.p (l := [0]) qP318) <| st (GW.p (l := [32, 33]) (by first | exact GW.yes rfl rfl rfl rfl rfl rfl rfl (by exact AStepD.bool (AStepD.str_neq rfl rfl rfl) (c := decide ((if rightB s then docT s else []) ≠ t)) (by rw [str_list, str_list])) | exact GW.no rfl rfl rfl rfl rfl rfl rfl | exact GW.none rfl rfl rfl rfl rfl | exact GW.may rfl rfl rfl rfl rfl rfl (fun hb => by (repeat (first | apply UW.yes rfl (gpf hb) | apply UW.no)); exact UW.nil (by exact AStepD.bool (AStepD.str_neq rfl rfl rfl) (c := decide ((if rightB s then docT s else []) ≠ t)) (by rw [str_list, str_list]))) | exact GW.may2 rfl rfl rfl rfl rfl rfl (fun _ hb => by (repeat (first | apply UW.yes rfl (gpf hb) | apply UW.no)); exact UW.nil (by exact AStepD.bool (AStepD.str_neq rfl rfl rfl) (c := decide ((if rightB s then docT s else []) ≠ t)) (by rw [str_list, str_list]))))) <| st qP312 <| nt (hK _ _ ?_)
  clear hK K
  refine AW.cond _ rfl (fun hc => ?_) (fun hc => ?_)
  · have hno : parseP t = none := by
      rw [parseP, hrd]
      show (if rightB s = true ∧ docT s = t then some s else none) = none
      rw [if_neg]
      rintro ⟨h1, h2⟩
      rw [h1, if_pos rfl, if_pos rfl, h2] at hc
      simp at hc
    refine rg fun K hK => ?_
    refine st (by exact SD.s rfl rfl rfl (by exact AStepD.val (AStepD.build tok rfl rfl rfl (by decide) rfl (fun _ h => absurd h List.not_mem_nil)) (y := .agg (zS.cs (.v (.slice none 0 0)))) (by rw [zS_zero]))) <| st0 (by exact ⟨rfl, rfl, (by exact AStepD.store' (k := 134) (cs := zS.cs (.v (.slice none 0 0))) (ys := zS.cs (.v (.slice none 0 0))) (zs := zS.cs (.v (.slice none 0 0))) tok rfl rfl g3 rfl rfl (zS.cs_one rfl) rfl (zS_ok.fc _) rfl (by rw [zS_ok.fc]; omega) (over_all (by rw [zS_ok.fc]; rfl)))⟩) <| st qP222 <| nt (hK _ _ ?_)
    clear hK K
    refine AW.ret (RetQ.sub (.inr rfl) (retA_agg (cs := zS.cs (.v (.slice none 0 0))) (zs := zS.cs (.v (.slice none 0 0))) rfl rfl rfl (AHeap.get_set_same _ _ _) rfl (show _ = 134 from rfl) (by rw [zS_ok.fc]; omega) (by rw [List.drop_zero]; exact List.take_of_length_le (by rw [zS_ok.fc]; omega)) (retA_tmp rfl qP21 retA_nil)) (SubV.tup2 (cs_sub zS (SubV.nil_vecA (α := Kn))) (.refl _)) ⟨?_, ?_⟩)
    · rw [hno]; rfl
    · exact hkp3.set (Nat.le_refl _)
  · have hyes : parseP t = some s := by
      rw [parseP, hrd]
      show (if rightB s = true ∧ docT s = t then some s else none) = some s
      rw [if_pos]
      cases hr : rightB s with
      | false => rw [hr] at hc; simp at hc
      | true =>
        rw [hr, if_pos rfl, if_pos rfl] at hc
        refine ⟨rfl, ?_⟩
        simpa using hc
    refine AW.skip ?_
    refine hK4 _ _ ?_; try clear hK4 K4
    refine rg fun K hK => ?_
    refine st (by exact SD.s rfl rfl rfl (by exact AStepD.load_agg (cs := s.cs (vecA s.known)) (zs := s.cs (vecA s.known)) tok rfl rfl rfl g4 rfl (show _ = 134 from rfl) (by omega) qP42)) <| st0 (by exact ⟨rfl, rfl, (by exact AStepD.store' (k := 134) (cs := zS.cs (.v (.slice none 0 0))) (ys := s.cs (vecA s.known)) (zs := s.cs (vecA s.known)) tok rfl rfl g3 rfl rfl (s.cs_one rfl) rfl hcl rfl (by rw [zS_ok.fc]; omega) (over_all (by rw [zS_ok.fc, hcl]; rfl)))⟩) <| st qP222 <| nt (hK _ _ ?_)
    clear hK K
    refine AW.ret (RetQ.mk (.inr rfl) (retA_agg (cs := s.cs (vecA s.known)) (zs := s.cs (vecA s.known)) rfl rfl rfl (AHeap.get_set_same _ _ _) rfl (show _ = 134 from rfl) (by omega) qP42 (retA_tmp rfl qP21 retA_nil)) ⟨?_, ?_⟩)
    · rw [hyes]; rfl
    · exact hkp3.set (Nat.le_refl _)
end Go.Proofs.YtcomjodfkcnjhaaGreatDoor

/- A state's text is read as it, plainly. -/

namespace Go.Proofs.YtcomjodfkcnjhaaGreatDoor
open Go.Ax
open Cel (c)
set_option linter.unusedSimpArgs false
set_option linter.unusedVariables false

theorem mem_join {sep : UInt8} {x : UInt8} : ∀ {xs : List (List UInt8)}, x ∈ Lib.join xs [sep] → x = sep ∨ ∃ y ∈ xs, x ∈ y
  | [], h => by rw [Lib.join_nil] at h; cases h
  | [a], h => by rw [Lib.join_one] at h; exact .inr ⟨a, List.mem_cons_self .., h⟩
  | a :: b :: r, h => by
    rw [join_cons, List.mem_append, List.mem_append, List.mem_singleton] at h
    rcases h with h | h | h
    · exact .inr ⟨a, List.mem_cons_self .., h⟩
    · exact .inl h
    · rcases mem_join h with h | ⟨y, hy, h⟩
      · exact .inl h
      · exact .inr ⟨y, List.mem_cons_of_mem _ hy, h⟩
theorem dig_mem {n : Nat} {x : UInt8} (h : x ∈ Lib.decDigits n) : 48 ≤ x.toNat ∧ x.toNat ≤ 57 := by
  have h1 := (val_dec n).1
  rw [okN, Bool.and_eq_true, Bool.and_eq_true, List.all_eq_true] at h1
  exact isD_of (h1.1.2 x h)
theorem set_mem {b : BitVec 64} {x : UInt8} (h : x ∈ textS b) : x = 32 ∨ x = 45 ∨ (48 ≤ x.toNat ∧ x.toNat ≤ 57) := by
  rcases mem_join h with h | ⟨y, hy, h⟩
  · exact .inl h
  · obtain ⟨⟨a, q⟩, _, rfl⟩ := List.mem_map.1 hy
    rw [segT] at h
    split at h
    · rcases List.mem_append.1 h with h | h
      · exact .inr (.inr (dig_mem h))
      · rcases List.mem_cons.1 h with h | h
        · exact .inr (.inl h)
        · exact .inr (.inr (dig_mem h))
    · exact .inr (.inr (dig_mem h))
theorem num_mem {n : Int} (h0 : 0 ≤ n) {x : UInt8} (h : x ∈ Lib.itoa n) : 48 ≤ x.toNat ∧ x.toNat ≤ 57 := by
  obtain ⟨m, rfl⟩ := Int.eq_ofNat_of_zero_le h0
  rw [itoa_nat] at h
  exact dig_mem h
def NoLF (ps : List Prt) : Prop := ∀ p ∈ ps, (10 : UInt8) ∉ p.txt
theorem jL_lf {ps : List Prt} (h : NoLF ps) : (10 : UInt8) ∉ jL ps := fun hm => by
  rcases mem_join hm with h1 | ⟨y, hy, h1⟩
  · cases h1
  · obtain ⟨p, hp, rfl⟩ := List.mem_map.1 hy
    exact h p hp h1
theorem num_lf {n : Int} (h : 0 ≤ n) : (10 : UInt8) ∉ (Prt.n n).txt := fun hm => by have := num_mem h hm; simp at this
theorem set_lf (b : BitVec 64) : (10 : UInt8) ∉ (Prt.s (textS b)).txt := fun hm => by
  rcases set_mem hm with h | h | h
  · cases h
  · cases h
  · simp at h
theorem lineH_lf {s : Stt} (r : Rt s) : NoLF (lineH s) := by
  obtain ⟨a1, a2⟩ := r.id; obtain ⟨b1, b2⟩ := r.master; obtain ⟨c1, c2⟩ := r.cur; obtain ⟨d1, d2⟩ := r.vote; obtain ⟨e1, e2⟩ := r.cfg
  simp only [NoLF, lineH, List.forall_mem_cons]
  exact ⟨by decide, num_lf (by omega), by decide, num_lf (by omega), by decide, num_lf (by omega), by decide, num_lf (by omega), by decide, num_lf (by omega), fun _ h => nomatch h⟩
theorem lineK_lf {s : Stt} (r : Rt s) {k : Kn} (h : k ∈ s.known) : NoLF (lineK k) := by
  obtain ⟨h1, h2, h3, h4⟩ := r.known k h
  simp only [NoLF, lineK, List.forall_mem_cons]
  exact ⟨by decide, num_lf (by omega), by decide, num_lf (by omega), by decide, num_lf (by omega), fun _ h => nomatch h⟩
theorem lineP_lf {s : Stt} (r : Rt s) {p : Int × Int} (h : ∃ i, i < 64 ∧ s.g i = p) : NoLF (lineP s.g p) := by
  obtain ⟨i, hi, rfl⟩ := h
  obtain ⟨h1, h2, h3⟩ := r.slot i hi
  simp only [NoLF, lineP, lineS, List.forall_mem_cons]
  exact ⟨by decide, num_lf h1.1, by decide, num_lf h2.1, by decide, set_lf _, fun _ h => nomatch h⟩
theorem all_lf {s : Stt} (r : Rt s) : ∀ ps ∈ allL s, NoLF ps := by
  rw [allL_eq]
  intro ps hps
  rcases List.mem_cons.1 hps with rfl | hps
  · exact lineH_lf r
  rcases List.mem_append.1 hps with hps | hps
  · obtain ⟨k, hk, rfl⟩ := List.mem_map.1 hps
    exact lineK_lf r hk
  · obtain ⟨p, hp, rfl⟩ := List.mem_map.1 hps
    exact lineP_lf r (mem_pairsG.1 hp).2
theorem doc_join : ∀ (ls : List (List Prt)), ls ≠ [] → docL ls = Lib.join (ls.map jL) [10] ++ [10]
  | [], h => absurd rfl h
  | [ps], _ => by rw [docL_one, List.map_singleton, Lib.join_one]
  | ps :: q :: r, _ => by
    rw [show ps :: q :: r = [ps] ++ (q :: r) from rfl, docL_append, docL_one, doc_join (q :: r) (by simp), List.map_append, List.map_singleton, List.map_cons, List.singleton_append, join_cons]
    simp [List.append_assoc]
theorem trim_doc (x : List UInt8) : Lib.trimSuffix (x ++ [10]) [10] = x := by
  rw [Lib.trimSuffix, Lib.hasSuffix, if_pos (by rw [List.isSuffixOf_iff_suffix]; exact ⟨x, rfl⟩), List.length_append, List.length_singleton, Nat.add_sub_cancel]
  exact List.take_left ..
theorem lines_doc {ls : List (List Prt)} (hne : ls ≠ []) (hlf : ∀ ps ∈ ls, NoLF ps) : splitB 10 (Lib.trimSuffix (docL ls) [10]) = ls.map jL := by
  rw [doc_join ls hne, trim_doc, split_join 10 _ (by simpa using hne) fun x hx => by
    obtain ⟨ps, hps, rfl⟩ := List.mem_map.1 hx
    exact jL_lf (hlf ps hps)]
/-! Cuts. -/
theorem occ_at (a m t : List UInt8) : Lib.occAt (a ++ (m ++ t)) m a.length = true := by
  rw [Lib.occAt, List.drop_left, List.isPrefixOf_iff_prefix]
  exact ⟨t, rfl⟩
theorem cut_at (a m t : List UInt8) (h : ∀ j, j < a.length → Lib.occAt (a ++ (m ++ t)) m j = false) : Lib.cut (a ++ (m ++ t)) m = (a, t, true) := by
  have h1 := Lib.index_first (by rw [List.length_append]; omega : a.length ≤ (a ++ (m ++ t)).length) (occ_at a m t) h
  rw [Lib.cut, h1, if_pos (by omega)]
  refine Prod.ext (List.take_left ..) (Prod.ext ?_ rfl)
  show (a ++ (m ++ t)).drop (a.length + m.length) = t
  rw [← List.append_assoc, ← List.length_append]
  exact List.drop_left ..
theorem cut_word (w r : List UInt8) (h : (32 : UInt8) ∉ w) : (Lib.cut (w ++ 32 :: r) [32]).1 = w := by
  rw [show w ++ 32 :: r = w ++ ([32] ++ r) from rfl, cut_at w [32] r fun j hj => ?_]
  rw [occ_one, decide_eq_false_iff_not, List.getElem?_append_left hj, List.getElem?_eq_getElem hj]
  intro e
  exact h (Option.some.inj e ▸ List.getElem_mem hj)
theorem cut_colon (a t : List UInt8) (h : (58 : UInt8) ∉ a) : Lib.cut (a ++ ([32, 58, 32] ++ t)) [32, 58, 32] = (a, t, true) := by
  refine cut_at a _ t fun j hj => ?_
  rw [Lib.occAt, ← Bool.not_eq_true, List.isPrefixOf_iff_prefix]
  rintro ⟨q, hq⟩
  have h1 := congrArg (fun l => l[1]?) hq
  simp only [List.getElem?_drop] at h1
  have h2 : (a ++ ([32, 58, 32] ++ t))[j + 1]? = some 58 := h1.symm
  rcases Nat.lt_or_ge (j + 1) a.length with h3 | h3
  · rw [List.getElem?_append_left h3, List.getElem?_eq_getElem h3] at h2
    exact h (Option.some.inj h2 ▸ List.getElem_mem h3)
  · have h4 : j + 1 = a.length := by omega
    rw [List.getElem?_append_right (by omega), h4, Nat.sub_self] at h2
    cases h2
/-! Lines, read. -/
theorem fieldsH {s : Stt} (r : Rt s) : fieldsF W5 (jL (lineH s)) = some [s.id, s.master, s.cur, s.vote, s.cfg] := by
  obtain ⟨a1, a2⟩ := r.id; obtain ⟨b1, b2⟩ := r.master; obtain ⟨c1, c2⟩ := r.cur; obtain ⟨d1, d2⟩ := r.vote; obtain ⟨e1, e2⟩ := r.cfg
  refine line_back W5 [s.id, s.master, s.cur, s.vote, s.cfg] (by simp) rfl (by decide) fun n hn => ?_
  simp only [List.mem_cons, List.not_mem_nil, or_false] at hn
  rcases hn with rfl | rfl | rfl | rfl | rfl <;> omega
theorem stepH {s t : Stt} (r : Rt s) : stepP true t (jL (lineH s)) = some (hdS t [s.id, s.master, s.cur, s.vote, s.cfg]) := by
  rw [stepP, if_pos rfl, fieldsH r]; rfl
theorem stepK {s t : Stt} (r : Rt s) {k : Kn} (h : k ∈ s.known) : stepP false t (jL (lineK k)) = some (addK t k) := by
  obtain ⟨h1, h2, h3, h4⟩ := r.known k h
  have hw : (Lib.cut (jL (lineK k)) [32]).1 = wN := by
    have : jL (lineK k) = wN ++ 32 :: Lib.join ([Prt.n k.id, .s wM, .n k.master, .s wG, .n k.cfg].map Prt.txt) [32] := rfl
    rw [this]; exact cut_word wN _ (by decide)
  have hf : fieldsF W3 (jL (lineK k)) = some [k.id, k.master, k.cfg] := line_back W3 [k.id, k.master, k.cfg] (by simp) rfl (by decide) fun n hn => by
    simp only [List.mem_cons, List.not_mem_nil, or_false] at hn
    rcases hn with rfl | rfl | rfl <;> omega
  rw [stepP, if_neg (by simp), if_pos hw, hf]; rfl
theorem stepQ {t : Stt} {w e : Int} (b : BitVec 64) (hw : 0 ≤ w ∧ w < 1000000000000000) (he : 0 ≤ e ∧ e < 1000000000000000) : stepP false t (jL (lineS w e b)) = some (putT t b w e) := by
  have h1 : (Lib.cut (jL (lineS w e b)) [32]).1 = wL := by
    have : jL (lineS w e b) = wL ++ 32 :: Lib.join ([Prt.n w, .s wE, .n e, .s [58], .s (textS b)].map Prt.txt) [32] := rfl
    rw [this]; exact cut_word wL _ (by decide)
  have h2 : jL (lineS w e b) = Lib.join (interB W2 [w, e]) [32] ++ ([32, 58, 32] ++ textS b) := by
    have : jL (lineS w e b) = Lib.join (interB W2 [w, e] ++ ([58] :: [textS b])) [32] := rfl
    rw [this, join_append 32 _ _ (by simp [interB]) (by simp), join_cons, Lib.join_one]
    simp
  have h3 : (58 : UInt8) ∉ Lib.join (interB W2 [w, e]) [32] := fun hm => by
    rcases mem_join hm with h | ⟨y, hy, h⟩
    · cases h
    · simp only [interB, List.mem_cons, List.not_mem_nil, or_false] at hy
      rcases hy with rfl | rfl | rfl | rfl
      · revert h; decide
      · have := num_mem hw.1 h; simp at this
      · revert h; decide
      · have := num_mem he.1 h; simp at this
  have h4 := cut_colon _ (textS b) h3
  rw [← h2] at h4
  have h5 : fieldsF W2 (Lib.join (interB W2 [w, e]) [32]) = some [w, e] := line_back W2 [w, e] (by simp) rfl (by decide) fun n hn => by
    simp only [List.mem_cons, List.not_mem_nil, or_false] at hn
    rcases hn with rfl | rfl <;> assumption
  rw [stepP, if_neg (by simp), if_neg (by rw [h1]; decide), if_pos h1, h4]
  simp only [h5, parseS, parse_text]
  rfl
end Go.Proofs.YtcomjodfkcnjhaaGreatDoor

/- A state's text is read as it, plainly: the whole. -/

namespace Go.Proofs.YtcomjodfkcnjhaaGreatDoor
open Go.Ax
open Cel (c)
set_option linter.unusedSimpArgs false
set_option linter.unusedVariables false

theorem read_app : ∀ (f : Bool) (a b : List (List UInt8)) (t : Stt), a ≠ [] → readL f t (a ++ b) = (readL f t a).bind fun t' => readL false t' b
  | f, [], b, t, h => absurd rfl h
  | f, l :: a, b, t, _ => by
    rw [List.cons_append, readL, readL]
    cases stepP f t l with
    | none => rfl
    | some t1 =>
      show readL false t1 (a ++ b) = (readL false t1 a).bind _
      cases a with
      | nil => rfl
      | cons x r => exact read_app false (x :: r) b t1 (by simp)
theorem read_app' (a b : List (List UInt8)) (t : Stt) : readL false t (a ++ b) = (readL false t a).bind fun t' => readL false t' b := by
  cases a with
  | nil => rfl
  | cons x r => exact read_app false (x :: r) b t (by simp)
theorem read_kn {s : Stt} (r : Rt s) : ∀ (ks : List Kn) (t : Stt), (∀ k ∈ ks, k ∈ s.known) → readL false t (ks.map fun k => jL (lineK k)) = some { t with known := t.known ++ ks }
  | [], t, _ => by rw [List.map_nil, readL, List.append_nil]
  | k :: ks, t, h => by
    rw [List.map_cons, readL, stepK r (h k (List.mem_cons_self ..))]
    show readL false (addK t k) _ = _
    rw [read_kn r ks _ fun q hq => h q (List.mem_cons_of_mem _ hq)]
    simp only [addK, List.append_assoc, List.singleton_append]
def putP (g : Nat → Int × Int) (t : Stt) (p : Int × Int) : Stt := putT t (setG g p) p.1 p.2
theorem read_ps {s : Stt} (r : Rt s) : ∀ (L : List (Int × Int)) (t : Stt), (∀ p ∈ L, ∃ i, i < 64 ∧ s.g i = p) → readL false t (L.map fun p => jL (lineP s.g p)) = some (L.foldl (putP s.g) t)
  | [], t, _ => rfl
  | p :: L, t, h => by
    obtain ⟨i, hi, e⟩ := h p (List.mem_cons_self ..)
    obtain ⟨h1, h2, h3⟩ := r.slot i hi
    have e1 : s.ow i = p.1 := congrArg Prod.fst e
    have e2 : s.ep i = p.2 := congrArg Prod.snd e
    rw [List.map_cons, readL, lineP, stepQ _ ⟨by omega, by omega⟩ ⟨by omega, by omega⟩]
    exact read_ps r L _ fun q hq => h q (List.mem_cons_of_mem _ hq)
theorem putP_facts (g : Nat → Int × Int) : ∀ (L : List (Int × Int)) (t : Stt), t.Ok → (L.foldl (putP g) t).Ok ∧ (∀ i, i < 64 → (L.foldl (putP g) t).g i = L.foldl (putS g) t.g i) ∧ (L.foldl (putP g) t).id = t.id ∧ (L.foldl (putP g) t).master = t.master ∧ (L.foldl (putP g) t).cur = t.cur ∧ (L.foldl (putP g) t).vote = t.vote ∧ (L.foldl (putP g) t).cfg = t.cfg ∧ (L.foldl (putP g) t).known = t.known
  | [], t, h => ⟨h, fun _ _ => rfl, rfl, rfl, rfl, rfl, rfl, rfl⟩
  | p :: L, t, h => by
    have h1 : (putP g t p).Ok := ⟨(putL_len _ _ _).trans h.o, (putL_len _ _ _).trans h.e⟩
    obtain ⟨a, b, c1⟩ := putP_facts g L (putP g t p) h1
    refine ⟨a, fun i hi => (b i hi).trans ?_, c1⟩
    rw [List.foldl_cons]
    have e : ∀ j, j < 64 → (putP g t p).g j = putS g t.g p j := fun j hj => by
      have hm : (j ∈ memN (setG g p)) ↔ g j = p := by
        rw [memN, List.mem_filter, List.mem_range, setG_get, Bool.and_eq_true, decide_eq_true_eq, decide_eq_true_eq]
        exact ⟨fun h => h.2.2, fun h => ⟨hj, hj, h⟩⟩
      have e1 := putL_get p.1 (memN (setG g p)) t.own j (by rw [h.o]; exact hj)
      have e2 := putL_get p.2 (memN (setG g p)) t.epo j (by rw [h.e]; exact hj)
      show ((putL t.own _ p.1).getD j 0, (putL t.epo _ p.2).getD j 0) = _
      rw [e1, e2, putS]
      by_cases hg : g j = p
      · rw [if_pos (hm.2 hg), if_pos (hm.2 hg), if_pos hg]
      · rw [if_neg fun h => hg (hm.1 h), if_neg fun h => hg (hm.1 h), if_neg hg]; rfl
    rw [fold_put, fold_put, e i hi]
theorem stt_ext {a b : Stt} (ha : a.Ok) (hb : b.Ok) (h1 : a.id = b.id) (h2 : a.master = b.master) (h3 : a.cur = b.cur) (h4 : a.vote = b.vote) (h5 : a.cfg = b.cfg) (h6 : a.known = b.known) (hg : ∀ i, i < 64 → a.g i = b.g i) : a = b := by
  have ho : a.own = b.own := List.ext_getElem (by rw [ha.o, hb.o]) fun i q1 q2 => by
    rw [ha.o] at q1
    have := congrArg Prod.fst (hg i q1)
    rw [getD_at, getD_at]; exact this
  have he : a.epo = b.epo := List.ext_getElem (by rw [ha.e, hb.e]) fun i q1 q2 => by
    rw [ha.e] at q1
    have := congrArg Prod.snd (hg i q1)
    rw [getD_at, getD_at]; exact this
  cases a; cases b
  simp only at h1 h2 h3 h4 h5 h6 ho he
  subst h1 h2 h3 h4 h5 h6 ho he
  rfl
theorem zero_g (i : Nat) : zS.g i = (0, 0) := by
  have : ∀ i, (List.replicate 64 (0 : Int)).getD i 0 = 0 := fun i => by
    rw [List.getD_eq_getElem?_getD, List.getElem?_replicate]
    split <;> rfl
  exact Prod.ext (this i) (this i)
theorem fold_state {s : Stt} (ok : s.Ok) (r : Rt s) {L : List (Int × Int)} (hL : ∀ p, p ∈ L ↔ p ∈ pairsG s.g) : L.foldl (putP s.g) { hdS zS [s.id, s.master, s.cur, s.vote, s.cfg] with known := s.known } = s := by
  have ok0 : ({ hdS zS [s.id, s.master, s.cur, s.vote, s.cfg] with known := s.known } : Stt).Ok := ⟨zS_ok.o, zS_ok.e⟩
  obtain ⟨h1, h2, h3, h4, h5, h6, h7, h8⟩ := putP_facts s.g L _ ok0
  refine stt_ext h1 ok h3 h4 h5 h6 h7 h8 fun i hi => ?_
  rw [h2 i hi, fold_put]
  have := fold_pairs s.g (fun j hj h => (r.slot j hj).2.2 h) i hi
  rw [fold_put] at this
  rw [show ({ hdS zS [s.id, s.master, s.cur, s.vote, s.cfg] with known := s.known } : Stt).g i = (0, 0) from zero_g i]
  by_cases hm : s.g i ∈ L
  · rw [if_pos hm]
  · rw [if_neg hm]
    rwa [if_neg fun h => hm ((hL _).2 h)] at this
theorem raw_doc {s : Stt} (ok : s.Ok) (r : Rt s) : rawP (docT s) = some s := by
  rw [rawP, docT, lines_doc (by rw [allL]; simp) (all_lf r), allL_eq, List.map_cons, readL, stepH r]
  show readL false (hdS zS _) _ = _
  rw [List.map_append, List.map_map, List.map_map, read_app', show (jL ∘ lineK) = fun k => jL (lineK k) from rfl, read_kn r s.known _ fun _ h => h]
  show readL false _ ((pairsG s.g).map fun p => jL (lineP s.g p)) = _
  rw [read_ps r _ _ fun p hp => (mem_pairsG.1 hp).2]
  exact congrArg some (fold_state ok r fun _ => Iff.rfl)
theorem parse_doc {s : Stt} (ok : s.Ok) (h : rightB s = true) : parseP (docT s) = some s := by
  rw [parseP, raw_doc ok (right_rt h)]
  exact if_pos ⟨h, rfl⟩
theorem read_ok : ∀ {f : Bool} {ls : List (List UInt8)} {s s' : Stt}, s.Ok → readL f s ls = some s' → s'.Ok
  | _, [], s, s', ok, h => by rw [readL] at h; cases h; exact ok
  | f, l :: ls, s, s', ok, h => by
    rw [readL] at h
    cases h1 : stepP f s l with
    | none => rw [h1] at h; cases h
    | some s1 => rw [h1] at h; exact read_ok (step_ok ok h1) h
theorem parse_ok {t : List UInt8} {s : Stt} (h : parseP t = some s) : s.Ok := by
  rw [parseP] at h
  split at h
  · cases h
  · rename_i s' h1
    split at h
    · cases h; exact read_ok zS_ok h1
    · cases h
end Go.Proofs.YtcomjodfkcnjhaaGreatDoor
