/- Walks: saves that are cut off at any call. -/
import Derived.Test.YtcomjodfkcnjhaaGreatDoorCK2
import Derived.Test.YtcomjodfkcnjhaaGreatDoorCE4
set_option linter.unusedSimpArgs false
set_option linter.unusedVariables false
namespace Go.Proofs.YtcomjodfkcnjhaaGreatDoor
open Go.Ax
open Cel (c)
theorem qK101 {p : Prop} (h : p := by exact AStepD.gtr rfl rfl rfl) : p := h
theorem qK102 {p : Prop} (h : p := by exact AStepD.lss rfl rfl rfl) : p := h
theorem qK103 {p : Prop} (h : p := by first | exact AStepD.indexAddr_flat tok rfl rfl rfl rfl rfl rfl rfl (show _ = 1 from rfl) rfl qK73 qK74 | exact AStepD.indexAddr_vec' tok rfl rfl rfl rfl rfl rfl (show _ = 1 from rfl) qK73 qK74 | exact AStepD.indexAddr_sl' tok rfl rfl rfl rfl rfl rfl (show _ = 1 from rfl) qK73 qK74 qK75 | exact AStepD.indexAddr_arr' tok rfl rfl rfl rfl rfl rfl (show _ = 1 from rfl) qK73 qK74 qK75) : p := h
theorem qK105 {p : Prop} (h : p := by exact (fun hb => by (repeat (first | apply UW.yes rfl (gpf hb) | apply UW.no)); exact UW.nil qK724)) : p := h
theorem qK106 {p : Prop} (h : p := by exact (fun _ hb => by (repeat (first | apply UW.yes rfl (gpf hb) | apply UW.no)); exact UW.nil qK724)) : p := h
theorem qK107 {p : Prop} (h : p := by exact (fun hb => by (repeat (first | apply UW.yes rfl (gpf hb) | apply UW.no)); exact UW.nil qK101)) : p := h
theorem qK108 {p : Prop} (h : p := by exact (fun _ hb => by (repeat (first | apply UW.yes rfl (gpf hb) | apply UW.no)); exact UW.nil qK101)) : p := h
theorem qK109 {p : Prop} (h : p := by exact SD.s rfl rfl rfl qK102) : p := h
theorem qK1010 {p : Prop} (h : p := by first | exact GW.yes rfl rfl rfl rfl rfl rfl rfl qK724 | exact GW.no rfl rfl rfl rfl rfl rfl rfl | exact GW.none rfl rfl rfl rfl rfl | exact GW.may rfl rfl rfl rfl rfl rfl qK105 | exact GW.may2 rfl rfl rfl rfl rfl rfl qK106) : p := h
theorem qK1011 {p : Prop} (h : p := by first | exact GW.yes rfl rfl rfl rfl rfl rfl rfl qK101 | exact GW.no rfl rfl rfl rfl rfl rfl rfl | exact GW.none rfl rfl rfl rfl rfl | exact GW.may rfl rfl rfl rfl rfl rfl qK107 | exact GW.may2 rfl rfl rfl rfl rfl rfl qK108) : p := h
set_option linter.unusedSimpArgs false
set_option linter.unusedVariables false
set_option maxRecDepth 20000
open Cel (c)

theorem cut_safe {f g : Fil} (h : Cut f g) (hs : f.safe = true) : g = f := by
  rcases h with h | ⟨h, _⟩
  · exact h
  · rw [hs] at h; cases h
theorem cutf_len {f g : Fil} (h : Cut f g) : g.b.length ≤ f.b.length := by
  rcases h with rfl | ⟨_, k, hk, rfl⟩
  · exact Nat.le_refl _
  · simp only [List.length_take]; omega
def Dk.calm (D : Dk) : Dk := { D with left := -1, down := false }
theorem crash_fine {D D' : Dk} (h : Crashed D D' (keysK D.fs)) (hf : D.Fine) : D'.calm.Fine := by
  refine ⟨by show ∀ k ∈ keysK D'.fs, _; rw [h.keys]; exact hf.keys, by show (keysK D'.fs).Nodup; rw [h.keys]; exact hf.nd, fun p hp => ?_, by have := hf.room; rw [← h.room] at this; exact this, by show (-1 : Int) ≤ _; decide⟩
  have hn : (keysK D'.fs).Nodup := by rw [h.keys]; exact hf.nd
  have hg := getK_of_mem hn hp
  have hk : p.1 ∈ keysK D.fs := by rw [← h.keys]; exact List.mem_map.2 ⟨p, hp, rfl⟩
  cases hd : getK D.fs p.1 with
  | none => exact absurd hk (getK_none.1 hd)
  | some f =>
    obtain ⟨g, h1, h2, _⟩ := h.get _ f hd
    rw [hg] at h1; cases h1
    exact Nat.le_trans (cutf_len h2) (hf.sz _ (getK_some_mem hd))
theorem crash_kept {D D' : Dk} (h : Crashed D D' (keysK D.fs)) (hs : ∀ f, D.kept = some f → f.safe = true) : D'.calm.kept = D.kept := by
  show getK D'.fs stN = getK D.fs stN
  cases hd : getK D.fs stN with
  | none =>
    rw [getK_none, h.keys]
    exact getK_none.1 hd
  | some f =>
    obtain ⟨g, h1, h2, _⟩ := h.get _ f hd
    rw [h1, cut_safe h2 (hs f hd)]

structure LastI (H : AHeap) (d m X : Nat) (D : Dk) (s : Stt) (y : AV) (saved : Bool) : Prop where
  dk : DkAt H d m D
  fine : D.Fine
  up : D.down = false
  cell : H.get X = some (.cells 34 (s.cs y))
  ok : s.Ok
  one : y.one = true
  no : saved = false → D.kept = none
  yes : saved = true → D.kept = some ⟨docT s, true⟩ ∧ y = vecA s.known ∧ rightB s = true
theorem LastI.keep {H H' : AHeap} {d m X : Nat} {D : Dk} {s : Stt} {y : AV} {b : Bool} (h : LastI H d m X D s y b) (h1 : H'.get d = H.get d) (h2 : H'.get m = H.get m) (h3 : H'.get X = H.get X) : LastI H' d m X D s y b :=
  ⟨h.dk.same h1 h2, h.fine, h.up, h3.trans h.cell, h.ok, h.one, h.no, h.yes⟩
theorem LastI.safe {H : AHeap} {d m X : Nat} {D : Dk} {s : Stt} {y : AV} {b : Bool} (h : LastI H d m X D s y b) : ∀ f, D.kept = some f → f.safe = true := by
  intro f hf
  cases b with
  | false => rw [h.no rfl] at hf; cases hf
  | true => rw [(h.yes rfl).1] at hf; cases hf; rfl
theorem arm_fine {D : Dk} (h : D.Fine) {n : Int} (hn : n ≤ 9223372036854775807) : (D.arm n).Fine := ⟨h.keys, h.nd, h.sz, h.room, by show (if n < -1 then (-1 : Int) else n) ≤ _; split <;> omega⟩
theorem after {D D' : Dk} {s : Stt} (hs : ∀ f, D.kept = some f → f.safe = true) (h : Crashed (D.save s).1 D' (keysK (D.save s).1.fs)) : D'.calm.kept = if (D.save s).2 = 0 then some ⟨docT s, true⟩ else D.kept := by
  rw [crash_kept h, save_kept]
  intro f hf
  rw [save_kept] at hf
  split at hf
  · cases hf; rfl
  · exact hs f hf

end Go.Proofs.YtcomjodfkcnjhaaGreatDoor

/- Walks: Carry. -/

namespace Go.Proofs.YtcomjodfkcnjhaaGreatDoor
open Go.Ax
open Cel (c)
theorem qK111 {p : Prop} (h : p := by simp only [Nat.reduceAdd]; exact rfl) : p := h
theorem qK112 {p : Prop} (h : p := by first | exact one_cells (by with_reducible assumption) | exact qK71) : p := h
theorem qK113 {p : Prop} (h : p := by first | with_reducible assumption | exact Cel.one _ | exact flat_ones _ | exact ones_nil | (simp only [List.forall_mem_cons, List.not_mem_nil, false_implies, implies_true, and_true, one_v, one_ptr, one_ip, one_sl, one_slc, one_vec, one_map, one_func, one_iface, Value.oneCell', *]; done) | (simp [AV.one, Value.oneCell', *]; done)) : p := h
theorem qK114 {p : Prop} (h : p := by first | ((with_reducible refine over_all ?_); exact rfl) | (simp only [over, List.take_succ_cons, List.take_zero, List.drop_succ_cons, List.drop_zero, List.length_cons, List.length_nil, List.nil_append, List.cons_append, Nat.reduceAdd, Nat.zero_add, List.drop_nil, List.append_nil]; exact rfl) | conv => lhs; whnf) : p := h
theorem qK115 {p : Prop} (h : p := by first | exact GW.yes rfl rfl rfl rfl rfl rfl rfl qK727 | exact GW.no rfl rfl rfl rfl rfl rfl rfl | exact GW.none rfl rfl rfl rfl rfl | exact GW.may rfl rfl rfl rfl rfl rfl (fun hb => by (repeat (first | apply UW.yes rfl (gpf hb) | apply UW.no)); exact UW.nil qK727) | exact GW.may2 rfl rfl rfl rfl rfl rfl (fun _ hb => by (repeat (first | apply UW.yes rfl (gpf hb) | apply UW.no)); exact UW.nil qK727)) : p := h
theorem qK116 {p : Prop} (h : p := by first | exact GW.yes rfl rfl rfl rfl rfl rfl rfl (by fail) | exact GW.no rfl rfl rfl rfl rfl rfl rfl | exact GW.none rfl rfl rfl rfl rfl | exact GW.may rfl rfl rfl rfl rfl rfl (fun hb => by (repeat (first | apply UW.yes rfl (gpf hb) | apply UW.no)); exact UW.nil (by fail)) | exact GW.may2 rfl rfl rfl rfl rfl rfl (fun _ hb => by (repeat (first | apply UW.yes rfl (gpf hb) | apply UW.no)); exact UW.nil (by fail))) : p := h
theorem qK117 {p : Prop} (h : p := by first | with_reducible assumption | exact rfl) : p := h
theorem qK118 {p : Prop} (h : p := by exact (fun hb => by (repeat (first | apply UW.yes rfl (gpf hb) | apply UW.no)); exact UW.nil qK712)) : p := h
theorem qK119 {p : Prop} (h : p := by exact (fun _ hb => by (repeat (first | apply UW.yes rfl (gpf hb) | apply UW.no)); exact UW.nil qK712)) : p := h
theorem qK1110 {p : Prop} (h : p := by exact AStepD.geq rfl rfl rfl) : p := h
theorem qK1111 {p : Prop} (h : p := by first | exact Nat.zero_add 2 | exact (show _ + 2 = _ from qK111) | exact (show _ + 2 = _ + 2 from rfl) | exact rfl) : p := h
theorem qK1112 {p : Prop} (h : p := by exact AStepD.store' tok rfl rfl qK720 qK71 qK112 qK113 rfl qK71 rfl qK77 qK114) : p := h
theorem qK1113 {p : Prop} (h : p := by first | exact Nat.zero_add 0 | exact (show _ + 0 = _ from qK111) | exact (show _ + 0 = _ + 0 from rfl) | exact rfl) : p := h
theorem qK1114 {p : Prop} (h : p := by first | exact AStepD.load_one tok rfl rfl rfl rfl qK720 rfl qK117 | exact AStepD.load_one_ip tok rfl rfl rfl rfl rfl qK117) : p := h
theorem qK1115 {p : Prop} (h : p := by first | exact GW.yes rfl rfl rfl rfl rfl rfl rfl qK712 | exact GW.no rfl rfl rfl rfl rfl rfl rfl | exact GW.none rfl rfl rfl rfl rfl | exact GW.may rfl rfl rfl rfl rfl rfl qK118 | exact GW.may2 rfl rfl rfl rfl rfl rfl qK119) : p := h
theorem qK1116 {p : Prop} (h : p := by exact (fun hb => by (repeat (first | apply UW.yes rfl (gpf hb) | apply UW.no)); exact UW.nil qK1110)) : p := h
theorem qK1117 {p : Prop} (h : p := by exact (fun _ hb => by (repeat (first | apply UW.yes rfl (gpf hb) | apply UW.no)); exact UW.nil qK1110)) : p := h
theorem qK1118 {p : Prop} (h : p := by first | exact Nat.zero_add 1 | exact (show _ + 1 = _ from qK111) | exact (show _ + 1 = _ + 1 from rfl) | exact rfl) : p := h
theorem qK1119 {p : Prop} (h : p := by first | exact AStepD.fieldAddr' tok rfl rfl rfl rfl rfl rfl rfl qK1111 | exact AStepD.fieldAddr_ip' tok rfl rfl rfl rfl rfl rfl rfl (show List.drop 2 _ = _ from rfl)) : p := h
theorem qK1120 {p : Prop} (h : p := by first | exact AStepD.fieldAddr' tok rfl rfl rfl rfl rfl rfl rfl qK1113 | exact AStepD.fieldAddr_ip' tok rfl rfl rfl rfl rfl rfl rfl List.drop_zero) : p := h
theorem qK1121 {p : Prop} (h : p := by exact (fun hb => by (repeat (first | apply UW.yes rfl (gpf hb) | apply UW.no)); exact UW.nil qK1114)) : p := h
theorem qK1122 {p : Prop} (h : p := by exact (fun _ hb => by (repeat (first | apply UW.yes rfl (gpf hb) | apply UW.no)); exact UW.nil qK1114)) : p := h
theorem qK1123 {p : Prop} (h : p := by first | exact GW.yes rfl rfl rfl rfl rfl rfl rfl qK1110 | exact GW.no rfl rfl rfl rfl rfl rfl rfl | exact GW.none rfl rfl rfl rfl rfl | exact GW.may rfl rfl rfl rfl rfl rfl qK1116 | exact GW.may2 rfl rfl rfl rfl rfl rfl qK1117) : p := h
theorem qK1124 {p : Prop} (h : p := by first | exact AStepD.fieldAddr' tok rfl rfl rfl rfl rfl rfl rfl qK1118 | exact AStepD.fieldAddr_ip' tok rfl rfl rfl rfl rfl rfl rfl (show List.drop 1 _ = _ from rfl)) : p := h
theorem qK1125 {p : Prop} (h : p := by exact (fun hb => by (repeat (first | apply UW.yes rfl (gpf hb) | apply UW.no)); exact UW.nil qK1120)) : p := h
theorem qK1126 {p : Prop} (h : p := by exact (fun _ hb => by (repeat (first | apply UW.yes rfl (gpf hb) | apply UW.no)); exact UW.nil qK1120)) : p := h
theorem qK1127 {p : Prop} (h : p := by first | exact GW.yes rfl rfl rfl rfl rfl rfl rfl qK1114 | exact GW.no rfl rfl rfl rfl rfl rfl rfl | exact GW.none rfl rfl rfl rfl rfl | exact GW.may rfl rfl rfl rfl rfl rfl qK1121 | exact GW.may2 rfl rfl rfl rfl rfl rfl qK1122) : p := h
theorem qK1128 {p : Prop} (h : p := by exact (fun hb => by (repeat (first | apply UW.yes rfl (gpf hb) | apply UW.no)); exact UW.nil qK1124)) : p := h
theorem qK1129 {p : Prop} (h : p := by exact (fun _ hb => by (repeat (first | apply UW.yes rfl (gpf hb) | apply UW.no)); exact UW.nil qK1124)) : p := h
theorem qK1130 {p : Prop} (h : p := by exact (fun hb => by (repeat (first | apply UW.yes rfl (gpf hb) | apply UW.no)); exact UW.nil qK1119)) : p := h
theorem qK1131 {p : Prop} (h : p := by exact (fun _ hb => by (repeat (first | apply UW.yes rfl (gpf hb) | apply UW.no)); exact UW.nil qK1119)) : p := h
theorem qK1132 {p : Prop} (h : p := by first | exact GW.yes rfl rfl rfl rfl rfl rfl rfl qK1120 | exact GW.no rfl rfl rfl rfl rfl rfl rfl | exact GW.none rfl rfl rfl rfl rfl | exact GW.may rfl rfl rfl rfl rfl rfl qK1125 | exact GW.may2 rfl rfl rfl rfl rfl rfl qK1126) : p := h
theorem qK1133 {p : Prop} (h : p := by first | exact GW.yes rfl rfl rfl rfl rfl rfl rfl qK1124 | exact GW.no rfl rfl rfl rfl rfl rfl rfl | exact GW.none rfl rfl rfl rfl rfl | exact GW.may rfl rfl rfl rfl rfl rfl qK1128 | exact GW.may2 rfl rfl rfl rfl rfl rfl qK1129) : p := h
theorem qK1134 {p : Prop} (h : p := by first | exact GW.yes rfl rfl rfl rfl rfl rfl rfl qK1119 | exact GW.no rfl rfl rfl rfl rfl rfl rfl | exact GW.none rfl rfl rfl rfl rfl | exact GW.may rfl rfl rfl rfl rfl rfl qK1130 | exact GW.may2 rfl rfl rfl rfl rfl rfl qK1131) : p := h
set_option linter.unusedSimpArgs false
set_option linter.unusedVariables false
set_option maxRecDepth 20000
open Cel (c)

abbrev epA (s : Stt) : AV := .agg [.v (.int .i64 s.cur), .v (.int .i64 s.vote), .v (.int .i64 s.cfg)]
abbrev epL (s : Stt) : List AV := [.v (.int .i64 s.cur), .v (.int .i64 s.vote), .v (.int .i64 s.cfg)]
theorem carry_calls (H : AHeap) (a b : Stt) (ha : a.Ok) (hb : b.Ok) : ACalls Tryz.prog 19 [stA a, stA b] H (fun r H' => r = .v (.bool (carryB a b)) ∧ H' = H) := by
  have hca := ha.fc (vecA a.known)
  have hcb := hb.fc (vecA b.known)
  refine ACalls.quiet_keep ?_ (.v _)
  refine ACalls.of_body tok Tryz.func19 rfl Tryz.ntmps19 (Nat.le_of_ble_eq_true rfl) (fun base => ?_)
  refine rg fun K hK => ?_
  refine st (by exact SD.s rfl rfl rfl (by exact AStepD.box (cs := a.cs (vecA a.known)) rfl rfl (a.cs_one rfl))) <| st (by exact SD.s rfl rfl rfl (by exact AStepD.box (cs := b.cs (vecA b.known)) rfl rfl (b.cs_one rfl))) <| st qK725 <| nt (hK _ _ ?_)
  clear hK K
  refine AW.cut (fun T' H' => ∃ X Y : Nat, H.next + 1 < X ∧ H.next + 1 < Y ∧ H'.get X = some (.cells 28 (epL a)) ∧ H'.get Y = some (.cells 28 (epL b)) ∧ H'.get H.next = some (.cells 34 (a.cs (vecA a.known))) ∧ H'.get (H.next + 1) = some (.cells 34 (b.cs (vecA b.known))) ∧ Keep H H' ∧ SubT T' [(5, .ptr X 0), (6, .ptr Y 0), (2, .ptr H.next 0), (3, .ptr (H.next + 1) 0)]) ?_ ?_
  · have g2 : ((H.new (.cells 34 (a.cs (vecA a.known)))).new (.cells 34 (b.cs (vecA b.known)))).get H.next = some (.cells 34 (a.cs (vecA a.known))) := qK720
    have g3 : ((H.new (.cells 34 (a.cs (vecA a.known)))).new (.cells 34 (b.cs (vecA b.known)))).get (H.next + 1) = some (.cells 34 (b.cs (vecA b.known))) := qK720
    have hkp : Keep H ((H.new (.cells 34 (a.cs (vecA a.known)))).new (.cells 34 (b.cs (vecA b.known)))) := (by repeat' (first | exact Keep.refl _ | apply Keep.new | apply Keep.set | apply Keep.del | (first | omega | (simp only [za, zb, zc]; omega))))
    have hnx : ((H.new (.cells 34 (a.cs (vecA a.known)))).new (.cells 34 (b.cs (vecA b.known)))).next = H.next + 2 := rfl
    show AW _ _ _ _ _ ((H.new (.cells 34 (a.cs (vecA a.known)))).new (.cells 34 (b.cs (vecA b.known)))) _
    generalize (H.new (.cells 34 (a.cs (vecA a.known)))).new (.cells 34 (b.cs (vecA b.known))) = H1 at g2 g3 hkp hnx
    have hz : AV.ofV (tt 28).zero = [.v (.int .i64 0), .v (.int .i64 0), .v (.int .i64 0)] := rfl
    refine AW.draw2 mixed 4 5 4 [6, 7]
      [.ptr H.next 2, epA a, .ptr (H.next + 1) 2, epA b, .ptr H1.next 0, .ptr (H1.next + 1) 0, .any, .any]
      [.ptr H.next 2, epA a, .ptr (H.next + 1) 2, epA b, .ptr (H1.next + 1) 0, .ptr H1.next 0, .any, .any]
      [H1, H1.new (.cells 28 (AV.ofV (tt 28).zero)), (H1.new (.cells 28 (AV.ofV (tt 28).zero))).new (.cells 28 (AV.ofV (tt 28).zero)), ((H1.new (.cells 28 (AV.ofV (tt 28).zero))).new (.cells 28 (AV.ofV (tt 28).zero))).set H1.next (.cells 28 (epL a)), (((H1.new (.cells 28 (AV.ofV (tt 28).zero))).new (.cells 28 (AV.ofV (tt 28).zero))).set H1.next (.cells 28 (epL a))).set (H1.next + 1) (.cells 28 (epL b))]
      [H1, H1.new (.cells 28 (AV.ofV (tt 28).zero)), (H1.new (.cells 28 (AV.ofV (tt 28).zero))).new (.cells 28 (AV.ofV (tt 28).zero)), ((H1.new (.cells 28 (AV.ofV (tt 28).zero))).new (.cells 28 (AV.ofV (tt 28).zero))).set (H1.next + 1) (.cells 28 (epL a)), (((H1.new (.cells 28 (AV.ofV (tt 28).zero))).new (.cells 28 (AV.ofV (tt 28).zero))).set (H1.next + 1) (.cells 28 (epL a))).set H1.next (.cells 28 (epL b))]
      [(0, 0), (0, 1), (0, 2), (1, 0), (1, 1), (1, 2), (2, 0), (2, 1), (2, 2), (2, 3), (3, 0), (3, 1), (3, 2), (3, 3), (4, 0), (5, 1), (6, 2), (7, 3)] [(0, 0), (0, 1), (0, 2), (1, 0), (1, 1), (1, 2), (2, 0), (2, 1), (2, 2), (2, 3), (3, 0), (3, 1), (3, 2), (3, 3), (4, 1), (5, 0), (6, 2), (7, 3)] rfl rfl rfl (by decide) rfl rfl rfl rfl rfl rfl rfl rfl ?_ ?_ rfl ?_ ?_
    · refine ⟨?_, ?_, ?_, ?_, ?_, ?_, ?_, ?_, ?_, ?_, ?_, ?_, ?_, ?_, ?_, ?_, ?_, ?_⟩
      · refine Ob.mk _ [2] 0 rfl rfl (restr_cons qK71 restr_nil) rfl ?_
        simp only [List.getD_cons_zero, List.getD_cons_succ]
        exact GStep.plain rfl qK1119
      · refine Ob.mk _ [2] 1 rfl rfl (restr_cons qK71 restr_nil) rfl ?_
        simp only [List.getD_cons_zero, List.getD_cons_succ]
        exact GStep.plain rfl qK1119
      · refine Ob.mk _ [2] 2 rfl rfl (restr_cons qK71 restr_nil) rfl ?_
        simp only [List.getD_cons_zero, List.getD_cons_succ]
        exact GStep.plain rfl qK1119
      · refine Ob.mk _ [7] 0 rfl rfl (restr_cons qK71 restr_nil) rfl ?_
        simp only [List.getD_cons_zero, List.getD_cons_succ]
        exact GStep.plain rfl (by exact AStepD.load_agg (cs := a.cs (vecA a.known)) (zs := epL a) tok rfl rfl rfl qK720 rfl (show _ = 3 from rfl) (by omega) rfl)
      · refine Ob.mk _ [7] 1 rfl rfl (restr_cons qK71 restr_nil) rfl ?_
        simp only [List.getD_cons_zero, List.getD_cons_succ]
        exact GStep.plain rfl (by exact AStepD.load_agg (cs := a.cs (vecA a.known)) (zs := epL a) tok rfl rfl rfl qK720 rfl (show _ = 3 from rfl) (by omega) rfl)
      · refine Ob.mk _ [7] 2 rfl rfl (restr_cons qK71 restr_nil) rfl ?_
        simp only [List.getD_cons_zero, List.getD_cons_succ]
        exact GStep.plain rfl (by exact AStepD.load_agg (cs := a.cs (vecA a.known)) (zs := epL a) tok rfl rfl rfl qK720 rfl (show _ = 3 from rfl) (by omega) rfl)
      · refine Ob.mk _ [3] 0 rfl rfl (restr_cons qK71 restr_nil) rfl ?_
        simp only [List.getD_cons_zero, List.getD_cons_succ]
        exact GStep.plain rfl qK1119
      · refine Ob.mk _ [3] 1 rfl rfl (restr_cons qK71 restr_nil) rfl ?_
        simp only [List.getD_cons_zero, List.getD_cons_succ]
        exact GStep.plain rfl qK1119
      · refine Ob.mk _ [3] 2 rfl rfl (restr_cons qK71 restr_nil) rfl ?_
        simp only [List.getD_cons_zero, List.getD_cons_succ]
        exact GStep.plain rfl qK1119
      · refine Ob.mk _ [3] 3 rfl rfl (restr_cons qK71 restr_nil) rfl ?_
        simp only [List.getD_cons_zero, List.getD_cons_succ]
        exact GStep.plain rfl qK1119
      · refine Ob.mk _ [9] 0 rfl rfl (restr_cons qK71 restr_nil) rfl ?_
        simp only [List.getD_cons_zero, List.getD_cons_succ]
        exact GStep.plain rfl (by exact AStepD.load_agg (cs := b.cs (vecA b.known)) (zs := epL b) tok rfl rfl rfl qK720 rfl (show _ = 3 from rfl) (by omega) rfl)
      · refine Ob.mk _ [9] 1 rfl rfl (restr_cons qK71 restr_nil) rfl ?_
        simp only [List.getD_cons_zero, List.getD_cons_succ]
        exact GStep.plain rfl (by exact AStepD.load_agg (cs := b.cs (vecA b.known)) (zs := epL b) tok rfl rfl rfl qK720 rfl (show _ = 3 from rfl) (by omega) rfl)
      · refine Ob.mk _ [9] 2 rfl rfl (restr_cons qK71 restr_nil) rfl ?_
        simp only [List.getD_cons_zero, List.getD_cons_succ]
        exact GStep.plain rfl (by exact AStepD.load_agg (cs := b.cs (vecA b.known)) (zs := epL b) tok rfl rfl rfl qK720 rfl (show _ = 3 from rfl) (by omega) rfl)
      · refine Ob.mk _ [9] 3 rfl rfl (restr_cons qK71 restr_nil) rfl ?_
        simp only [List.getD_cons_zero, List.getD_cons_succ]
        exact GStep.plain rfl (by exact AStepD.load_agg (cs := b.cs (vecA b.known)) (zs := epL b) tok rfl rfl rfl qK720 rfl (show _ = 3 from rfl) (by omega) rfl)
      · refine Ob.mk _ [] 1 rfl rfl restr_nil rfl ?_
        simp only [List.getD_cons_zero, List.getD_cons_succ]
        exact GStep.plain rfl qK79
      · refine Ob.mk _ [] 2 rfl rfl restr_nil rfl ?_
        simp only [List.getD_cons_zero, List.getD_cons_succ]
        exact GStep.plain rfl qK79
      · refine Ob.mk _ [5, 8] 3 rfl rfl (restr_cons qK71 (restr_cons qK71 restr_nil)) rfl ?_
        simp only [List.getD_cons_zero, List.getD_cons_succ]
        exact GStep.plain rfl qK1112
      · refine Ob.mk _ [6, 10] 4 rfl rfl (restr_cons qK71 (restr_cons qK71 restr_nil)) rfl ?_
        simp only [List.getD_cons_zero, List.getD_cons_succ]
        exact GStep.plain rfl qK1112
    · refine ⟨?_, ?_, ?_, ?_, ?_, ?_, ?_, ?_, ?_, ?_, ?_, ?_, ?_, ?_, ?_, ?_, ?_, ?_⟩
      · refine Ob.mk _ [2] 0 rfl rfl (restr_cons qK71 restr_nil) rfl ?_
        simp only [List.getD_cons_zero, List.getD_cons_succ]
        exact GStep.plain rfl qK1119
      · refine Ob.mk _ [2] 1 rfl rfl (restr_cons qK71 restr_nil) rfl ?_
        simp only [List.getD_cons_zero, List.getD_cons_succ]
        exact GStep.plain rfl qK1119
      · refine Ob.mk _ [2] 2 rfl rfl (restr_cons qK71 restr_nil) rfl ?_
        simp only [List.getD_cons_zero, List.getD_cons_succ]
        exact GStep.plain rfl qK1119
      · refine Ob.mk _ [7] 0 rfl rfl (restr_cons qK71 restr_nil) rfl ?_
        simp only [List.getD_cons_zero, List.getD_cons_succ]
        exact GStep.plain rfl (by exact AStepD.load_agg (cs := a.cs (vecA a.known)) (zs := epL a) tok rfl rfl rfl qK720 rfl (show _ = 3 from rfl) (by omega) rfl)
      · refine Ob.mk _ [7] 1 rfl rfl (restr_cons qK71 restr_nil) rfl ?_
        simp only [List.getD_cons_zero, List.getD_cons_succ]
        exact GStep.plain rfl (by exact AStepD.load_agg (cs := a.cs (vecA a.known)) (zs := epL a) tok rfl rfl rfl qK720 rfl (show _ = 3 from rfl) (by omega) rfl)
      · refine Ob.mk _ [7] 2 rfl rfl (restr_cons qK71 restr_nil) rfl ?_
        simp only [List.getD_cons_zero, List.getD_cons_succ]
        exact GStep.plain rfl (by exact AStepD.load_agg (cs := a.cs (vecA a.known)) (zs := epL a) tok rfl rfl rfl qK720 rfl (show _ = 3 from rfl) (by omega) rfl)
      · refine Ob.mk _ [3] 0 rfl rfl (restr_cons qK71 restr_nil) rfl ?_
        simp only [List.getD_cons_zero, List.getD_cons_succ]
        exact GStep.plain rfl qK1119
      · refine Ob.mk _ [3] 1 rfl rfl (restr_cons qK71 restr_nil) rfl ?_
        simp only [List.getD_cons_zero, List.getD_cons_succ]
        exact GStep.plain rfl qK1119
      · refine Ob.mk _ [3] 2 rfl rfl (restr_cons qK71 restr_nil) rfl ?_
        simp only [List.getD_cons_zero, List.getD_cons_succ]
        exact GStep.plain rfl qK1119
      · refine Ob.mk _ [3] 3 rfl rfl (restr_cons qK71 restr_nil) rfl ?_
        simp only [List.getD_cons_zero, List.getD_cons_succ]
        exact GStep.plain rfl qK1119
      · refine Ob.mk _ [9] 0 rfl rfl (restr_cons qK71 restr_nil) rfl ?_
        simp only [List.getD_cons_zero, List.getD_cons_succ]
        exact GStep.plain rfl (by exact AStepD.load_agg (cs := b.cs (vecA b.known)) (zs := epL b) tok rfl rfl rfl qK720 rfl (show _ = 3 from rfl) (by omega) rfl)
      · refine Ob.mk _ [9] 1 rfl rfl (restr_cons qK71 restr_nil) rfl ?_
        simp only [List.getD_cons_zero, List.getD_cons_succ]
        exact GStep.plain rfl (by exact AStepD.load_agg (cs := b.cs (vecA b.known)) (zs := epL b) tok rfl rfl rfl qK720 rfl (show _ = 3 from rfl) (by omega) rfl)
      · refine Ob.mk _ [9] 2 rfl rfl (restr_cons qK71 restr_nil) rfl ?_
        simp only [List.getD_cons_zero, List.getD_cons_succ]
        exact GStep.plain rfl (by exact AStepD.load_agg (cs := b.cs (vecA b.known)) (zs := epL b) tok rfl rfl rfl qK720 rfl (show _ = 3 from rfl) (by omega) rfl)
      · refine Ob.mk _ [9] 3 rfl rfl (restr_cons qK71 restr_nil) rfl ?_
        simp only [List.getD_cons_zero, List.getD_cons_succ]
        exact GStep.plain rfl (by exact AStepD.load_agg (cs := b.cs (vecA b.known)) (zs := epL b) tok rfl rfl rfl qK720 rfl (show _ = 3 from rfl) (by omega) rfl)
      · refine Ob.mk _ [] 2 rfl rfl restr_nil rfl ?_
        simp only [List.getD_cons_zero, List.getD_cons_succ]
        exact GStep.plain rfl qK79
      · refine Ob.mk _ [] 1 rfl rfl restr_nil rfl ?_
        simp only [List.getD_cons_zero, List.getD_cons_succ]
        exact GStep.plain rfl qK79
      · refine Ob.mk _ [5, 8] 3 rfl rfl (restr_cons qK71 (restr_cons qK71 restr_nil)) rfl ?_
        simp only [List.getD_cons_zero, List.getD_cons_succ]
        exact GStep.plain rfl qK1112
      · refine Ob.mk _ [6, 10] 4 rfl rfl (restr_cons qK71 (restr_cons qK71 restr_nil)) rfl ?_
        simp only [List.getD_cons_zero, List.getD_cons_succ]
        exact GStep.plain rfl qK1112
    · simp only [List.length_cons, List.length_nil, Nat.zero_add, Nat.reduceAdd, List.getD_cons_zero, List.getD_cons_succ]
      exact ⟨H1.next, H1.next + 1, by omega, by omega, qK720, qK720, qK720, qK720, qK711, qK718⟩
    · simp only [List.length_cons, List.length_nil, Nat.zero_add, Nat.reduceAdd, List.getD_cons_zero, List.getD_cons_succ]
      exact ⟨H1.next + 1, H1.next, by omega, by omega, qK720, qK720, qK720, qK720, qK711, qK718⟩
  rintro T' H2 ⟨X, Y, hX, hY, gX, gY, g2, g3, hk, hs⟩
  refine AW.sub hs ?_
  clear hs
  cases hra : rightB a with
  | false =>
    refine rg fun K hK => ?_
    refine st (by exact SD.s rfl rfl rfl (by exact st_load ha rfl rfl g2)) <| st (by exact SD.s rfl rfl rfl (by exact AStepD.bool (AStepD.callf rfl en20 rfl (right_calls _ a ha)) hra)) <| st qK726 <| st (GW.p (l := [3]) qK115) <| st (GW.p (l := [14]) qK116) <| st qK730 <| st qK726 <| st (GW.p (l := [2]) qK1132) <| st (GW.p (l := [18]) qK1127) <| st (GW.p (l := [3]) qK1132) <| st (GW.p (l := [20]) qK1127) <| st (GW.p (l := [19, 21]) qK1115) <| st qK730 <| st qK726 <| st (GW.p (l := [6]) qK1132) <| st (GW.p (l := [25]) qK1127) <| st (GW.p (l := [5]) qK1132) <| st (GW.p (l := [27]) qK1127) <| st (GW.p (l := [26, 28]) qK1123) <| st qK730 <| st qK726 <| st (GW.p (l := [6]) qK1133) <| st (GW.p (l := [32]) qK1127) <| st (GW.p (l := [5]) qK1133) <| st (GW.p (l := [34]) qK1127) <| st (GW.p (l := [33, 35]) qK1123) <| st qK730 <| st qK726 <| st (GW.p (l := [6]) qK1134) <| st (GW.p (l := [39]) qK1127) <| st (GW.p (l := [5]) qK1134) <| st (GW.p (l := [41]) qK1127) <| st (GW.p (l := [40, 42]) qK1123) <| st qK730 <| st qK725 <| nt (hK _ _ ?_)
    clear hK K
    refine AW.ret (RetQ.mk (.inr rfl) (retA_tmp rfl qK71 retA_nil) ⟨by rw [carryB, hra]; rfl, hk⟩)
  | true =>
  cases hrb : rightB b with
  | false =>
    refine rg fun K hK => ?_
    refine st (by exact SD.s rfl rfl rfl (by exact st_load ha rfl rfl g2)) <| st (by exact SD.s rfl rfl rfl (by exact AStepD.bool (AStepD.callf rfl en20 rfl (right_calls _ a ha)) hra)) <| st qK726 <| st (GW.p (l := [3]) (by first | exact GW.yes rfl rfl rfl rfl rfl rfl rfl (by exact st_load hb rfl rfl g3) | exact GW.no rfl rfl rfl rfl rfl rfl rfl | exact GW.none rfl rfl rfl rfl rfl | exact GW.may rfl rfl rfl rfl rfl rfl (fun hb => by (repeat (first | apply UW.yes rfl (gpf hb) | apply UW.no)); exact UW.nil (by exact st_load hb rfl rfl g3)) | exact GW.may2 rfl rfl rfl rfl rfl rfl (fun _ hb => by (repeat (first | apply UW.yes rfl (gpf hb) | apply UW.no)); exact UW.nil (by exact st_load hb rfl rfl g3)))) <| st (GW.p (l := [14]) (by first | exact GW.yes rfl rfl rfl rfl rfl rfl rfl (by exact AStepD.bool (AStepD.callf rfl en20 rfl (right_calls _ b hb)) hrb) | exact GW.no rfl rfl rfl rfl rfl rfl rfl | exact GW.none rfl rfl rfl rfl rfl | exact GW.may rfl rfl rfl rfl rfl rfl (fun hb => by (repeat (first | apply UW.yes rfl (gpf hb) | apply UW.no)); exact UW.nil (by exact AStepD.bool (AStepD.callf rfl en20 rfl (right_calls _ b hb)) hrb)) | exact GW.may2 rfl rfl rfl rfl rfl rfl (fun _ hb => by (repeat (first | apply UW.yes rfl (gpf hb) | apply UW.no)); exact UW.nil (by exact AStepD.bool (AStepD.callf rfl en20 rfl (right_calls _ b hb)) hrb)))) <| st qK730 <| st qK726 <| st (GW.p (l := [2]) qK1132) <| st (GW.p (l := [18]) qK1127) <| st (GW.p (l := [3]) qK1132) <| st (GW.p (l := [20]) qK1127) <| st (GW.p (l := [19, 21]) qK1115) <| st qK730 <| st qK726 <| st (GW.p (l := [6]) qK1132) <| st (GW.p (l := [25]) qK1127) <| st (GW.p (l := [5]) qK1132) <| st (GW.p (l := [27]) qK1127) <| st (GW.p (l := [26, 28]) qK1123) <| st qK730 <| st qK726 <| st (GW.p (l := [6]) qK1133) <| st (GW.p (l := [32]) qK1127) <| st (GW.p (l := [5]) qK1133) <| st (GW.p (l := [34]) qK1127) <| st (GW.p (l := [33, 35]) qK1123) <| st qK730 <| st qK726 <| st (GW.p (l := [6]) qK1134) <| st (GW.p (l := [39]) qK1127) <| st (GW.p (l := [5]) qK1134) <| st (GW.p (l := [41]) qK1127) <| st (GW.p (l := [40, 42]) qK1123) <| st qK730 <| st qK725 <| nt (hK _ _ ?_)
    clear hK K
    refine AW.ret (RetQ.mk (.inr rfl) (retA_tmp rfl qK71 retA_nil) ⟨by rw [carryB, hra, hrb]; rfl, hk⟩)
  | true =>
    obtain ⟨b1, e1⟩ : ∃ q, decide (a.id = b.id) = q := ⟨_, rfl⟩
    obtain ⟨b2, e2⟩ : ∃ q, decide (b.cur ≥ a.cur) = q := ⟨_, rfl⟩
    obtain ⟨b3, e3⟩ : ∃ q, decide (b.vote ≥ a.vote) = q := ⟨_, rfl⟩
    obtain ⟨b4, e4⟩ : ∃ q, decide (b.cfg ≥ a.cfg) = q := ⟨_, rfl⟩
    have hcb2 : carryB a b = (b1 && b2 && b3 && b4) := by rw [carryB, hra, hrb, ← e1, ← e2, ← e3, ← e4]; rfl
    rw [hcb2]
    clear hcb2
    cases b1 <;> cases b2 <;> cases b3 <;> cases b4
    all_goals
      refine rg fun K hK => ?_
      refine st (by exact SD.s rfl rfl rfl (by exact st_load ha rfl rfl g2)) <| st (by exact SD.s rfl rfl rfl (by exact AStepD.bool (AStepD.callf rfl en20 rfl (right_calls _ a ha)) hra)) <| st qK726 <| st (GW.p (l := [3]) (by first | exact GW.yes rfl rfl rfl rfl rfl rfl rfl (by exact st_load hb rfl rfl g3) | exact GW.no rfl rfl rfl rfl rfl rfl rfl | exact GW.none rfl rfl rfl rfl rfl | exact GW.may rfl rfl rfl rfl rfl rfl (fun hb => by (repeat (first | apply UW.yes rfl (gpf hb) | apply UW.no)); exact UW.nil (by exact st_load hb rfl rfl g3)) | exact GW.may2 rfl rfl rfl rfl rfl rfl (fun _ hb => by (repeat (first | apply UW.yes rfl (gpf hb) | apply UW.no)); exact UW.nil (by exact st_load hb rfl rfl g3)))) <| st (GW.p (l := [14]) (by first | exact GW.yes rfl rfl rfl rfl rfl rfl rfl (by exact AStepD.bool (AStepD.callf rfl en20 rfl (right_calls _ b hb)) hrb) | exact GW.no rfl rfl rfl rfl rfl rfl rfl | exact GW.none rfl rfl rfl rfl rfl | exact GW.may rfl rfl rfl rfl rfl rfl (fun hb => by (repeat (first | apply UW.yes rfl (gpf hb) | apply UW.no)); exact UW.nil (by exact AStepD.bool (AStepD.callf rfl en20 rfl (right_calls _ b hb)) hrb)) | exact GW.may2 rfl rfl rfl rfl rfl rfl (fun _ hb => by (repeat (first | apply UW.yes rfl (gpf hb) | apply UW.no)); exact UW.nil (by exact AStepD.bool (AStepD.callf rfl en20 rfl (right_calls _ b hb)) hrb)))) <| st qK730 <| st qK726 <| st (GW.p (l := [2]) qK1132) <| st (GW.p (l := [18]) qK1127) <| st (GW.p (l := [3]) qK1132) <| st (GW.p (l := [20]) qK1127) <| st (GW.p (l := [19, 21]) (by first | exact GW.yes rfl rfl rfl rfl rfl rfl rfl (by exact AStepD.bool (AStepD.eql rfl rfl rfl) e1) | exact GW.no rfl rfl rfl rfl rfl rfl rfl | exact GW.none rfl rfl rfl rfl rfl | exact GW.may rfl rfl rfl rfl rfl rfl (fun hb => by (repeat (first | apply UW.yes rfl (gpf hb) | apply UW.no)); exact UW.nil (by exact AStepD.bool (AStepD.eql rfl rfl rfl) e1)) | exact GW.may2 rfl rfl rfl rfl rfl rfl (fun _ hb => by (repeat (first | apply UW.yes rfl (gpf hb) | apply UW.no)); exact UW.nil (by exact AStepD.bool (AStepD.eql rfl rfl rfl) e1)))) <| st qK730 <| st qK726 <| st (GW.p (l := [6]) qK1132) <| st (GW.p (l := [25]) qK1127) <| st (GW.p (l := [5]) qK1132) <| st (GW.p (l := [27]) qK1127) <| st (GW.p (l := [26, 28]) (by first | exact GW.yes rfl rfl rfl rfl rfl rfl rfl (by exact AStepD.bool (AStepD.geq rfl rfl rfl) e2) | exact GW.no rfl rfl rfl rfl rfl rfl rfl | exact GW.none rfl rfl rfl rfl rfl | exact GW.may rfl rfl rfl rfl rfl rfl (fun hb => by (repeat (first | apply UW.yes rfl (gpf hb) | apply UW.no)); exact UW.nil (by exact AStepD.bool (AStepD.geq rfl rfl rfl) e2)) | exact GW.may2 rfl rfl rfl rfl rfl rfl (fun _ hb => by (repeat (first | apply UW.yes rfl (gpf hb) | apply UW.no)); exact UW.nil (by exact AStepD.bool (AStepD.geq rfl rfl rfl) e2)))) <| st qK730 <| st qK726 <| st (GW.p (l := [6]) qK1133) <| st (GW.p (l := [32]) qK1127) <| st (GW.p (l := [5]) qK1133) <| st (GW.p (l := [34]) qK1127) <| st (GW.p (l := [33, 35]) (by first | exact GW.yes rfl rfl rfl rfl rfl rfl rfl (by exact AStepD.bool (AStepD.geq rfl rfl rfl) e3) | exact GW.no rfl rfl rfl rfl rfl rfl rfl | exact GW.none rfl rfl rfl rfl rfl | exact GW.may rfl rfl rfl rfl rfl rfl (fun hb => by (repeat (first | apply UW.yes rfl (gpf hb) | apply UW.no)); exact UW.nil (by exact AStepD.bool (AStepD.geq rfl rfl rfl) e3)) | exact GW.may2 rfl rfl rfl rfl rfl rfl (fun _ hb => by (repeat (first | apply UW.yes rfl (gpf hb) | apply UW.no)); exact UW.nil (by exact AStepD.bool (AStepD.geq rfl rfl rfl) e3)))) <| st qK730 <| st qK726 <| st (GW.p (l := [6]) qK1134) <| st (GW.p (l := [39]) qK1127) <| st (GW.p (l := [5]) qK1134) <| st (GW.p (l := [41]) qK1127) <| st (GW.p (l := [40, 42]) (by first | exact GW.yes rfl rfl rfl rfl rfl rfl rfl (by exact AStepD.bool (AStepD.geq rfl rfl rfl) e4) | exact GW.no rfl rfl rfl rfl rfl rfl rfl | exact GW.none rfl rfl rfl rfl rfl | exact GW.may rfl rfl rfl rfl rfl rfl (fun hb => by (repeat (first | apply UW.yes rfl (gpf hb) | apply UW.no)); exact UW.nil (by exact AStepD.bool (AStepD.geq rfl rfl rfl) e4)) | exact GW.may2 rfl rfl rfl rfl rfl rfl (fun _ hb => by (repeat (first | apply UW.yes rfl (gpf hb) | apply UW.no)); exact UW.nil (by exact AStepD.bool (AStepD.geq rfl rfl rfl) e4)))) <| st qK730 <| st qK725 <| nt (hK _ _ ?_)
      clear hK K
      exact AW.ret (RetQ.mk (.inr rfl) (retA_tmp rfl qK71 retA_nil) ⟨rfl, hk⟩)
end Go.Proofs.YtcomjodfkcnjhaaGreatDoor

/- Walks: nothing goes down from a state to itself; what is carried by each is carried. -/

namespace Go.Proofs.YtcomjodfkcnjhaaGreatDoor
open Go.Ax
open Cel (c)
set_option linter.unusedSimpArgs false
set_option linter.unusedVariables false
set_option maxRecDepth 20000
open Cel (c)

theorem carry_self (a : Stt) : carryB a a = rightB a := by
  rw [carryB]
  cases rightB a <;> simp
end Go.Proofs.YtcomjodfkcnjhaaGreatDoor

/- Walks: what is loaded behind any crash carries what was loaded ahead of it. -/

namespace Go.Proofs.YtcomjodfkcnjhaaGreatDoor
open Go.Ax
open Cel (c)
set_option linter.unusedSimpArgs false
set_option linter.unusedVariables false
set_option maxRecDepth 20000
open Cel (c)

set_option maxHeartbeats 4000000 in
theorem rises_law (H : AHeap) (l : List St) (arms keeps : List Int) (har : ∀ n ∈ arms, n ≤ 9223372036854775807) : ACalls Tryz.prog 7 [vecA l, vecA arms, vecA keeps] H (fun r _ => r = .v (.bool true)) := by
  refine ACalls.lts fun hlt => ?_
  refine ACalls.of_body tok Tryz.func7 rfl Tryz.ntmps7 (Nat.le_of_ble_eq_true rfl) (fun base => ?_)
  refine rg fun K hK => ?_
  refine st qK725 <| nt (hK _ _ ?_)
  clear hK K
  refine AW.seq_k (fun K1 hK1 => ?_)
  refine rg fun K hK => ?_
  refine st (by exact SD.s rfl rfl rfl (by exact AStepD.callf rfl en8 rfl (anchor_calls _))) <| st (by exact SD.s rfl rfl rfl (by first | exact AStepD.not rfl rfl | exact AStepD.neg rfl rfl (by first | exact IntWalk.i64_in _ (by omega) | exact IntWalk.i64_in _ (by simp only [Bool.or_eq_true, Bool.and_eq_true, Bool.or_eq_false_iff, Bool.and_eq_false_iff, Bool.not_eq_true', Bool.not_eq_false', decide_eq_true_eq, decide_eq_false_iff_not, Int.not_lt, Int.not_le, beq_iff_eq] at *; omega) | exact rfl))) <| nt (hK _ _ ?_)
  clear hK K
  refine AW.cond_false rfl rfl (AW.skip ?_)
  refine hK1 _ _ ?_; try clear hK1 K1
  refine AW.seq_k (fun K2 hK2 => ?_)
  refine rg fun K hK => ?_
  refine st qK726 <| st (by exact SD.s rfl rfl rfl (by exact AStepD.callf rfl en9 rfl (small_calls9 _ l 12))) <| st (by exact SD.s rfl rfl rfl (by first | exact AStepD.not rfl rfl | exact AStepD.neg rfl rfl (by first | exact IntWalk.i64_in _ (by omega) | exact IntWalk.i64_in _ (by simp only [Bool.or_eq_true, Bool.and_eq_true, Bool.or_eq_false_iff, Bool.and_eq_false_iff, Bool.not_eq_true', Bool.not_eq_false', decide_eq_true_eq, decide_eq_false_iff_not, Int.not_lt, Int.not_le, beq_iff_eq] at *; omega) | exact rfl))) <| st qK726 <| st (GW.p (l := [1]) qK731) <| st (GW.p (l := [20]) (by first | exact GW.yes rfl rfl rfl rfl rfl rfl rfl (by exact AStepD.len_sl tok rfl rfl .vec rfl rfl) | exact GW.no rfl rfl rfl rfl rfl rfl rfl | exact GW.none rfl rfl rfl rfl rfl | exact GW.may rfl rfl rfl rfl rfl rfl (fun hb => by (repeat (first | apply UW.yes rfl (gpf hb) | apply UW.no)); exact UW.nil (by exact AStepD.len_sl tok rfl rfl .vec rfl rfl)) | exact GW.may2 rfl rfl rfl rfl rfl rfl (fun _ hb => by (repeat (first | apply UW.yes rfl (gpf hb) | apply UW.no)); exact UW.nil (by exact AStepD.len_sl tok rfl rfl .vec rfl rfl)))) <| st (GW.p (l := [21]) qK1011) <| st qK730 <| st qK726 <| st (GW.p (l := [2]) qK731) <| st (GW.p (l := [25]) (by first | exact GW.yes rfl rfl rfl rfl rfl rfl rfl (by exact AStepD.len_sl tok rfl rfl .vec rfl rfl) | exact GW.no rfl rfl rfl rfl rfl rfl rfl | exact GW.none rfl rfl rfl rfl rfl | exact GW.may rfl rfl rfl rfl rfl rfl (fun hb => by (repeat (first | apply UW.yes rfl (gpf hb) | apply UW.no)); exact UW.nil (by exact AStepD.len_sl tok rfl rfl .vec rfl rfl)) | exact GW.may2 rfl rfl rfl rfl rfl rfl (fun _ hb => by (repeat (first | apply UW.yes rfl (gpf hb) | apply UW.no)); exact UW.nil (by exact AStepD.len_sl tok rfl rfl .vec rfl rfl)))) <| st (GW.p (l := [26]) qK1011) <| st qK730 <| nt (hK _ _ ?_)
  clear hK K
  refine AW.cond _ rfl (fun hc => ?_) (fun hc => ?_)
  · refine rg fun K hK => ?_
    refine st qK725 <| nt (hK _ _ ?_)
    clear hK K
    exact AW.ret (RetQ.mk (.inr rfl) (retA_tmp rfl qK71 retA_nil) rfl)
  have hg : smallB l 12 = true ∧ arms.length ≤ 20 ∧ keeps.length ≤ 50 := by
    simp only [Bool.or_eq_false_iff, Bool.not_eq_false', decide_eq_false_iff_not, Int.not_lt] at hc
    simp_all
    omega
  clear hc
  obtain ⟨hsm, ha20, hk50⟩ := hg
  have hll : l.length ≤ 12 := by
    simp only [smallB, Bool.and_eq_true, decide_eq_true_eq] at hsm
    omega
  refine AW.skip ?_
  refine hK2 _ _ ?_; try clear hK2 K2
  refine rg fun K hK => ?_
  refine AL.call rfl rfl rfl (AStep.callf rfl en10 (new_calls _ 65536 (by decide) (by decide))) ?_; rintro _ H1 ⟨rfl, h1, hk1, hn1⟩; replace hn1 : H.next + 1 < H1.next := by omega
  refine st qK725 <| nt (hK _ _ ?_)
  clear hK K
  have hf0 := D0_fine (room := 65536) (by decide)
  refine AW.seq_k (fun K3 hK3 => ?_)
  refine rg fun K hK => ?_
  refine st qK726 <| st (by exact SD.s rfl rfl rfl qK712) <| nt (hK _ _ ?_)
  clear hK K
  refine AW.cond_false rfl rfl (AW.skip ?_)
  refine hK3 _ _ ?_; try clear hK3 K3
  refine rg fun K hK => ?_
  refine st qK721 <| nt (hK _ _ ?_)
  clear hK K
  rw [zS_zero]
  refine rg fun K hK => ?_
  refine st qK725 <| nt (hK _ _ ?_)
  clear hK K
  refine AW.seq_k (fun K4 hK4 => ?_)
  refine rg fun K hK => ?_
  refine st qK726 <| st (by exact SD.s rfl rfl rfl (by exact AStepD.len_sl tok rfl rfl .vec rfl rfl)) <| st qK726 <| nt (hK _ _ ?_)
  clear hK K
  have h1d := h1.d
  have h1m := h1.m
  refine AW.block ?_
  refine AW.loop_at (ι := Nat × Bool) (fun x => [(34, .v (.int .i64 (x.1 : Nat))), (33, .v (.int .i64 (l.length : Nat))), (32, vecA l), (9, .v (.bool x.2)), (8, .ptr H1.next 0), (7, .ptr (H.next + 1) 0), (2, vecA keeps), (1, vecA arms)])
    (fun x H' => x.1 ≤ l.length ∧ (∃ D s y, LastI H' (H.next + 1) H.next H1.next D s y x.2) ∧ H1.next < H'.next) (fun x => l.length - x.1) (0, false) qK718
    ⟨Nat.zero_le _, ⟨D0 65536, zS, .v (.slice none 0 0), ⟨qK720, qK720⟩, hf0, rfl, qK720, zS_ok, rfl, fun _ => rfl, fun h => by cases h⟩, qK714⟩ ?_
  rintro ⟨i, saved⟩ H2 ⟨hi, ⟨D, s, y, hI⟩, hn2⟩
  have hi : i ≤ l.length := hi
  have hI : LastI H2 (H.next + 1) H.next H1.next D s y saved := hI
  refine rg fun K hK => ?_
  refine st qK109 <| nt (hK _ _ ?_)
  clear hK K
  refine AW.seq_k (fun K5 hK5 => ?_)
  refine AW.cond _ rfl (fun hc => ?_) (fun hc => ?_)
  · (try simp only [Bool.or_eq_true, Bool.and_eq_true, Bool.or_eq_false_iff, Bool.and_eq_false_iff, Bool.not_eq_true', Bool.not_eq_false', decide_eq_true_eq, decide_eq_false_iff_not, Int.not_lt, Int.not_le] at hc)
    have hil : i < l.length := by omega
    have hok := l[i].2
    have hId := hI.dk.d
    have hIm := hI.dk.m
    have hIc := hI.cell
    refine AW.skip ?_
    refine hK5 _ _ ?_; try clear hK5 K5
    refine AW.seq_k (fun K6 hK6 => ?_)
    refine AW.block ?_
    refine rg fun K hK => ?_
    refine st qK726 <| st (by exact SD.s rfl rfl rfl qK719) <| st (by exact SD.s rfl rfl rfl qK727) <| st qK721 <| st qK725 <| st0 (by exact ⟨rfl, rfl, (by exact st_store hok rfl rfl rfl qK720 zS_len rfl)⟩) <| nt (hK _ _ ?_)
    clear hK K
    obtain ⟨pr, epr⟩ : ∃ q, rightB l[i].1 = q := ⟨_, rfl⟩
    obtain ⟨pc, epc⟩ : ∃ q, carryB s l[i].1 = q := ⟨_, rfl⟩
    have hyv : saved = true → y = vecA s.known := fun h => (hI.yes h).2.1
    have g11 : ((H2.new (.cells 34 (AV.ofV (tt 34).zero))).set H2.next (.cells 34 (l[i].1.cs (vecA l[i].1.known)))).get H2.next = some (.cells 34 (l[i].1.cs (vecA l[i].1.known))) := AHeap.get_set_same _ _ _
    have g8 : ((H2.new (.cells 34 (AV.ofV (tt 34).zero))).set H2.next (.cells 34 (l[i].1.cs (vecA l[i].1.known)))).get H1.next = some (.cells 34 (s.cs y)) := qK720
    have gd : DkAt ((H2.new (.cells 34 (AV.ofV (tt 34).zero))).set H2.next (.cells 34 (l[i].1.cs (vecA l[i].1.known)))) (H.next + 1) H.next D := hI.dk.same qK723 qK723
    have gn : ((H2.new (.cells 34 (AV.ofV (tt 34).zero))).set H2.next (.cells 34 (l[i].1.cs (vecA l[i].1.known)))).next = H2.next + 1 := rfl
    show AW _ _ _ _ _ ((H2.new (.cells 34 (AV.ofV (tt 34).zero))).set H2.next (.cells 34 (l[i].1.cs (vecA l[i].1.known)))) _
    generalize (H2.new (.cells 34 (AV.ofV (tt 34).zero))).set H2.next (.cells 34 (l[i].1.cs (vecA l[i].1.known))) = G at g11 g8 gd gn
    refine AW.seq_k (fun K7 hK7 => ?_)
    refine AW.cut (fun T' Hq => Hq = G ∧ SubT T' [(50, .v (.bool (!pr || (saved && !pc)))), (34, .v (.int .i64 (i : Nat))), (33, .v (.int .i64 (l.length : Nat))), (32, vecA l), (11, .ptr H2.next 0), (10, .v (.int .i64 (i : Nat))), (9, .v (.bool saved)), (8, .ptr H1.next 0), (7, .ptr (H.next + 1) 0), (2, vecA keeps), (1, vecA arms)]) ?_ ?_
    · cases saved <;> (try obtain rfl := hyv rfl) <;> cases pr <;> cases pc
      all_goals
        refine AW.region ?_
        refine st (by exact SD.s rfl rfl rfl (by exact st_load hok rfl rfl g11)) <| st (by exact SD.s rfl rfl rfl (by exact AStepD.bool (AStepD.callf rfl en20 rfl (right_calls _ l[i].1 hok)) epr)) <| st (by exact SD.s rfl rfl rfl (by first | exact AStepD.not rfl rfl | exact AStepD.neg rfl rfl (by first | exact IntWalk.i64_in _ (by omega) | exact IntWalk.i64_in _ (by simp only [Bool.or_eq_true, Bool.and_eq_true, Bool.or_eq_false_iff, Bool.and_eq_false_iff, Bool.not_eq_true', Bool.not_eq_false', decide_eq_true_eq, decide_eq_false_iff_not, Int.not_lt, Int.not_le, beq_iff_eq] at *; omega) | exact rfl))) <| st qK726 <| st (GW.p (l := [9]) qK731) <| st (GW.p (l := [43]) qK731) <| st (GW.p (l := [8]) (by first | exact GW.yes rfl rfl rfl rfl rfl rfl rfl (by exact st_load hI.ok rfl rfl g8) | exact GW.no rfl rfl rfl rfl rfl rfl rfl | exact GW.none rfl rfl rfl rfl rfl | exact GW.may rfl rfl rfl rfl rfl rfl (fun hb => by (repeat (first | apply UW.yes rfl (gpf hb) | apply UW.no)); exact UW.nil (by exact st_load hI.ok rfl rfl g8)) | exact GW.may2 rfl rfl rfl rfl rfl rfl (fun _ hb => by (repeat (first | apply UW.yes rfl (gpf hb) | apply UW.no)); exact UW.nil (by exact st_load hI.ok rfl rfl g8)))) <| st (GW.p (l := [11]) (by first | exact GW.yes rfl rfl rfl rfl rfl rfl rfl (by exact st_load hok rfl rfl g11) | exact GW.no rfl rfl rfl rfl rfl rfl rfl | exact GW.none rfl rfl rfl rfl rfl | exact GW.may rfl rfl rfl rfl rfl rfl (fun hb => by (repeat (first | apply UW.yes rfl (gpf hb) | apply UW.no)); exact UW.nil (by exact st_load hok rfl rfl g11)) | exact GW.may2 rfl rfl rfl rfl rfl rfl (fun _ hb => by (repeat (first | apply UW.yes rfl (gpf hb) | apply UW.no)); exact UW.nil (by exact st_load hok rfl rfl g11)))) <| st (GW.p (l := [45, 46]) (by first | exact GW.yes rfl rfl rfl rfl rfl rfl rfl (by exact AStepD.bool (AStepD.callf rfl en19 rfl (carry_calls _ s l[i].1 hI.ok hok)) epc) | exact GW.no rfl rfl rfl rfl rfl rfl rfl | exact GW.none rfl rfl rfl rfl rfl | exact GW.may rfl rfl rfl rfl rfl rfl (fun hb => by (repeat (first | apply UW.yes rfl (gpf hb) | apply UW.no)); exact UW.nil (by exact AStepD.bool (AStepD.callf rfl en19 rfl (carry_calls _ s l[i].1 hI.ok hok)) epc)) | exact GW.may2 rfl rfl rfl rfl rfl rfl (fun _ hb => by (repeat (first | apply UW.yes rfl (gpf hb) | apply UW.no)); exact UW.nil (by exact AStepD.bool (AStepD.callf rfl en19 rfl (carry_calls _ s l[i].1 hI.ok hok)) epc)))) <| st (GW.p (l := [47]) (by first | exact GW.yes rfl rfl rfl rfl rfl rfl rfl (by first | exact AStepD.not rfl rfl | exact AStepD.neg rfl rfl (by first | exact IntWalk.i64_in _ (by omega) | exact IntWalk.i64_in _ (by simp only [Bool.or_eq_true, Bool.and_eq_true, Bool.or_eq_false_iff, Bool.and_eq_false_iff, Bool.not_eq_true', Bool.not_eq_false', decide_eq_true_eq, decide_eq_false_iff_not, Int.not_lt, Int.not_le, beq_iff_eq] at *; omega) | exact rfl)) | exact GW.no rfl rfl rfl rfl rfl rfl rfl | exact GW.none rfl rfl rfl rfl rfl | exact GW.may rfl rfl rfl rfl rfl rfl (fun hb => by (repeat (first | apply UW.yes rfl (gpf hb) | apply UW.no)); exact UW.nil (by first | exact AStepD.not rfl rfl | exact AStepD.neg rfl rfl (by first | exact IntWalk.i64_in _ (by omega) | exact IntWalk.i64_in _ (by simp only [Bool.or_eq_true, Bool.and_eq_true, Bool.or_eq_false_iff, Bool.and_eq_false_iff, Bool.not_eq_true', Bool.not_eq_false', decide_eq_true_eq, decide_eq_false_iff_not, Int.not_lt, Int.not_le, beq_iff_eq] at *; omega) | exact rfl))) | exact GW.may2 rfl rfl rfl rfl rfl rfl (fun _ hb => by (repeat (first | apply UW.yes rfl (gpf hb) | apply UW.no)); exact UW.nil (by first | exact AStepD.not rfl rfl | exact AStepD.neg rfl rfl (by first | exact IntWalk.i64_in _ (by omega) | exact IntWalk.i64_in _ (by simp only [Bool.or_eq_true, Bool.and_eq_true, Bool.or_eq_false_iff, Bool.and_eq_false_iff, Bool.not_eq_true', Bool.not_eq_false', decide_eq_true_eq, decide_eq_false_iff_not, Int.not_lt, Int.not_le, beq_iff_eq] at *; omega) | exact rfl))))) <| st (GW.p (l := [44, 48]) qK1010) <| st qK730 <| AL.nil ?_
        exact ⟨rfl, qK718⟩
    rintro T' G2 ⟨rfl, hs⟩
    refine AW.sub hs ?_
    clear hs
    refine AW.cond _ rfl (fun hc => ?_) (fun hc => ?_)
    · refine AW.exit ?_
      refine hK6 _ _ ?_; try clear hK6 K6
      refine AW.region ?_
      refine st (by exact SD.s rfl rfl rfl (by first | exact AStepD.add rfl rfl rfl (by first | exact IntWalk.i64_in _ (by omega) | exact IntWalk.i64_in _ (by simp only [Bool.or_eq_true, Bool.and_eq_true, Bool.or_eq_false_iff, Bool.and_eq_false_iff, Bool.not_eq_true', Bool.not_eq_false', decide_eq_true_eq, decide_eq_false_iff_not, Int.not_lt, Int.not_le, beq_iff_eq] at *; omega) | exact rfl) | exact AStepD.str_add rfl rfl rfl (by omega))) <| st qK726 <| AL.nil ?_
      exact ⟨(i + 1, saved), by show l.length - (i + 1) < l.length - i; omega, qK718, by show i + 1 ≤ l.length; omega, ⟨D, s, y, ⟨gd, hI.fine, hI.up, g8, hI.ok, hI.one, hI.no, hI.yes⟩⟩, by omega⟩
    have hr : rightB l[i].1 = true := by rw [epr]; simp at hc; exact hc.1
    have hcar : saved = true → carryB s l[i].1 = true := by intro h; rw [epc]; simp at hc; exact hc.2 h
    clear hc
    refine AW.skip ?_
    refine hK7 _ _ ?_; try clear hK7 K7
    refine AW.cut (fun T' H' => ∃ E : Dk, DkAt H' (H.next + 1) H.next E ∧ E.Fine ∧ E.kept = D.kept ∧ Only (· = H.next + 1) G2 H' ∧ SubT T' [(34, .v (.int .i64 (i : Nat))), (33, .v (.int .i64 (l.length : Nat))), (32, vecA l), (11, .ptr H2.next 0), (10, .v (.int .i64 (i : Nat))), (9, .v (.bool saved)), (8, .ptr H1.next 0), (7, .ptr (H.next + 1) 0), (2, vecA keeps), (1, vecA arms)]) ?_ ?_
    · refine rg fun K hK => ?_
      refine st qK726 <| st qK726 <| st (by exact SD.s rfl rfl rfl (by exact AStepD.len_sl tok rfl rfl .vec rfl rfl)) <| st qK109 <| nt (hK _ _ ?_)
      clear hK K
      refine AW.cond _ rfl (fun hc => ?_) (fun hc => ?_)
      · (try simp only [Bool.or_eq_true, Bool.and_eq_true, Bool.or_eq_false_iff, Bool.and_eq_false_iff, Bool.not_eq_true', Bool.not_eq_false', decide_eq_true_eq, decide_eq_false_iff_not, Int.not_lt, Int.not_le] at hc)
        have hia : i < arms.length := by omega
        refine AW.region ?_
        refine st qK726 <| st qK726 <| st qK726 <| st (by exact SD.s rfl rfl rfl qK103) <| st (by exact SD.s rfl rfl rfl qK1114) <| ?_
        refine AL.call rfl rfl rfl (AStep.callf rfl en21 (arm_calls _ (H.next + 1) H.next D arms[i] gd)) ?_; rintro _ H3 ⟨h3, o3⟩
        refine AL.nil ?_
        exact ⟨D.arm arms[i], h3, arm_fine hI.fine (har _ (List.getElem_mem hia)), rfl, o3, qK718⟩
      · refine AW.skip ?_
        exact ⟨D, gd, hI.fine, rfl, Only.refl _ _, qK718⟩
    rintro T' H3 ⟨E, hE, hEf, hEk, o3, hs⟩
    refine AW.sub hs ?_
    clear hs
    have hn3 := o3.nx
    have hx11 : H3.get H2.next = some (.cells 34 (l[i].1.cs (vecA l[i].1.known))) := (o3.gt _ qK714 (by omega)).trans g11
    have hx8 : H3.get H1.next = some (.cells 34 (s.cs y)) := (o3.gt _ qK714 (by omega)).trans g8
    refine rg fun K hK => ?_
    refine st qK726 <| st (by exact SD.s rfl rfl rfl (by exact st_load hok rfl rfl hx11)) <| ?_
    refine AL.call rfl rfl rfl (AStep.callf rfl en12 (save_calls _ (H.next + 1) H.next E l[i].1 hok hE hEf)) ?_; rintro _ H4 ⟨rfl, h4, o4⟩
    refine nt (hK _ _ ?_)
    clear hK K
    have hn4 := o4.nx
    have h4x8 : H4.get H1.next = some (.cells 34 (s.cs y)) := (o4.gt _ qK714 (by rintro (e | e) <;> omega)).trans hx8
    have hef4 := hEf.save l[i].1
    refine rg fun K hK => ?_
    refine st qK726 <| st qK726 <| ?_
    refine AL.call rfl rfl rfl (AStep.callf rfl en22 (crash_calls _ (H.next + 1) H.next (E.save l[i].1).1 keeps h4 hef4.ok (by omega))) ?_; rintro r5 H5 ⟨D', h5, hcr, o5⟩
    refine nt (hK _ _ ?_)
    clear hK K
    have hn5 := o5.nx
    have h5x8 : H5.get H1.next = some (.cells 34 (s.cs y)) := (o5.gt _ qK714 (by rintro (e | e) <;> omega)).trans h4x8
    have h5 : DkAt H5 (H.next + 1) H.next D'.calm := h5
    have h5f := crash_fine hcr hef4
    have hEs : ∀ f, E.kept = some f → f.safe = true := by rw [hEk]; exact hI.safe
    have h5k := after hEs hcr
    rw [hEk] at h5k
    have h5d := h5.d
    have h5m := h5.m
    have hlk := load_kept (D := D'.calm) rfl
    have hlo := load_ok D'.calm
    refine rg fun K hK => ?_
    refine st qK726 <| st (by exact SD.s rfl rfl rfl (by exact AStepD.callf rfl en15 rfl (load_calls _ (H.next + 1) H.next D'.calm h5 h5f))) <| st qK726 <| st qK722 <| st qK722 <| st qK721 <| st0 (by exact ⟨rfl, rfl, (by exact st_store hlo rfl rfl rfl qK720 zS_len rfl)⟩) <| st qK725 <| nt (hK _ _ ?_)
    clear hK K
    obtain ⟨got, hgot⟩ : ∃ got, got = D'.calm.load.1 := ⟨_, rfl⟩
    obtain ⟨f, hf⟩ : ∃ f, f = D'.calm.load.2 := ⟨_, rfl⟩
    obtain ⟨e, he⟩ : ∃ e, e = (E.save l[i].1).2 := ⟨_, rfl⟩
    rw [← hgot, ← hf]
    rw [← hgot] at hlo
    have hA : (∃ g : Stt, f = 0 ∧ got = g ∧ rightB g = true ∧ D'.calm.kept = some ⟨docT g, true⟩ ∧ (saved = true → carryB s g = true)) ∨ (saved = false ∧ f = 52 ∧ D'.calm.kept = none) := by
      by_cases h0 : e = 0
      · rw [he] at h0
        rw [if_pos h0] at h5k
        have := load_doc (D := D'.calm) rfl hok hr h5k
        exact .inl ⟨l[i].1, by rw [hf, this], by rw [hgot, this], hr, h5k, hcar⟩
      · rw [he] at h0
        rw [if_neg h0] at h5k
        cases saved with
        | true =>
          have hy := hI.yes rfl
          have := load_doc (D := D'.calm) rfl hI.ok hy.2.2 (h5k.trans hy.1)
          exact .inl ⟨s, by rw [hf, this], by rw [hgot, this], hy.2.2, h5k.trans hy.1, fun _ => by rw [carry_self]; exact hy.2.2⟩
        | false => exact .inr ⟨rfl, by rw [hf, hlk, h5k, hI.no rfl], h5k.trans (hI.no rfl)⟩
    obtain ⟨H6, hH6⟩ : ∃ H6, H6 = (H5.new (.cells 34 (AV.ofV (tt 34).zero))).set H5.next (.cells 34 (got.cs (vecA got.known))) := ⟨_, rfl⟩
    rw [← hH6]
    have h6x12 : H6.get H5.next = some (.cells 34 (got.cs (vecA got.known))) := by rw [hH6]; exact AHeap.get_set_same _ _ _
    have h6x8 : H6.get H1.next = some (.cells 34 (s.cs y)) := by rw [hH6]; exact qK720
    have h6d : DkAt H6 (H.next + 1) H.next D'.calm := by rw [hH6]; exact h5.same qK723 qK723
    have hn6 : H1.next < H6.next := by rw [hH6]; exact qK714
    clear hH6
    refine AW.seq_k (fun K8 hK8 => ?_)
    rcases hA with ⟨g, hf0, rfl, hrg, hkg, hcg⟩ | ⟨rfl, hf52, hk0⟩
    · refine rg fun K hK => ?_
      refine st qK726 <| st (by exact SD.s rfl rfl rfl (by exact AStepD.bool (AStepD.eql rfl rfl rfl) (c := false) (by rw [hf0]; rfl))) <| st qK726 <| st (GW.p (l := [9]) qK731) <| st (GW.p (l := [75]) (by first | exact GW.yes rfl rfl rfl rfl rfl rfl rfl (by first | exact AStepD.not rfl rfl | exact AStepD.neg rfl rfl (by first | exact IntWalk.i64_in _ (by omega) | exact IntWalk.i64_in _ (by simp only [Bool.or_eq_true, Bool.and_eq_true, Bool.or_eq_false_iff, Bool.and_eq_false_iff, Bool.not_eq_true', Bool.not_eq_false', decide_eq_true_eq, decide_eq_false_iff_not, Int.not_lt, Int.not_le, beq_iff_eq] at *; omega) | exact rfl)) | exact GW.no rfl rfl rfl rfl rfl rfl rfl | exact GW.none rfl rfl rfl rfl rfl | exact GW.may rfl rfl rfl rfl rfl rfl (fun hb => by (repeat (first | apply UW.yes rfl (gpf hb) | apply UW.no)); exact UW.nil (by first | exact AStepD.not rfl rfl | exact AStepD.neg rfl rfl (by first | exact IntWalk.i64_in _ (by omega) | exact IntWalk.i64_in _ (by simp only [Bool.or_eq_true, Bool.and_eq_true, Bool.or_eq_false_iff, Bool.and_eq_false_iff, Bool.not_eq_true', Bool.not_eq_false', decide_eq_true_eq, decide_eq_false_iff_not, Int.not_lt, Int.not_le, beq_iff_eq] at *; omega) | exact rfl))) | exact GW.may2 rfl rfl rfl rfl rfl rfl (fun _ hb => by (repeat (first | apply UW.yes rfl (gpf hb) | apply UW.no)); exact UW.nil (by first | exact AStepD.not rfl rfl | exact AStepD.neg rfl rfl (by first | exact IntWalk.i64_in _ (by omega) | exact IntWalk.i64_in _ (by simp only [Bool.or_eq_true, Bool.and_eq_true, Bool.or_eq_false_iff, Bool.and_eq_false_iff, Bool.not_eq_true', Bool.not_eq_false', decide_eq_true_eq, decide_eq_false_iff_not, Int.not_lt, Int.not_le, beq_iff_eq] at *; omega) | exact rfl))))) <| st qK730 <| nt (hK _ _ ?_)
      clear hK K
      refine AW.cond_false rfl rfl (AW.skip ?_)
      refine hK8 _ _ ?_; try clear hK8 K8
      refine AW.seq_k (fun K9 hK9 => ?_)
      refine AW.cut (fun T' Hq => Hq = H6 ∧ SubT T' [(88, .v (.bool false)), (34, .v (.int .i64 (i : Nat))), (33, .v (.int .i64 (l.length : Nat))), (32, vecA l), (12, .ptr H5.next 0), (9, .v (.bool saved)), (8, .ptr H1.next 0), (7, .ptr (H.next + 1) 0), (2, vecA keeps), (1, vecA arms)]) ?_ ?_
      · cases saved <;> (try obtain rfl := hyv rfl) <;> (try have hcg := hcg rfl)
        all_goals
          refine AW.region ?_
          refine st qK726 <| st (by exact SD.s rfl rfl rfl (by exact AStepD.bool (AStepD.neq rfl rfl rfl) (c := false) (by rw [hf0]; rfl))) <| st qK726 <| st (GW.p (l := [9]) qK731) <| st (GW.p (l := [81]) qK731) <| st (GW.p (l := [8]) (by first | exact GW.yes rfl rfl rfl rfl rfl rfl rfl (by exact st_load hI.ok rfl rfl h6x8) | exact GW.no rfl rfl rfl rfl rfl rfl rfl | exact GW.none rfl rfl rfl rfl rfl | exact GW.may rfl rfl rfl rfl rfl rfl (fun hb => by (repeat (first | apply UW.yes rfl (gpf hb) | apply UW.no)); exact UW.nil (by exact st_load hI.ok rfl rfl h6x8)) | exact GW.may2 rfl rfl rfl rfl rfl rfl (fun _ hb => by (repeat (first | apply UW.yes rfl (gpf hb) | apply UW.no)); exact UW.nil (by exact st_load hI.ok rfl rfl h6x8)))) <| st (GW.p (l := [12]) (by first | exact GW.yes rfl rfl rfl rfl rfl rfl rfl (by exact st_load hlo rfl rfl h6x12) | exact GW.no rfl rfl rfl rfl rfl rfl rfl | exact GW.none rfl rfl rfl rfl rfl | exact GW.may rfl rfl rfl rfl rfl rfl (fun hb => by (repeat (first | apply UW.yes rfl (gpf hb) | apply UW.no)); exact UW.nil (by exact st_load hlo rfl rfl h6x12)) | exact GW.may2 rfl rfl rfl rfl rfl rfl (fun _ hb => by (repeat (first | apply UW.yes rfl (gpf hb) | apply UW.no)); exact UW.nil (by exact st_load hlo rfl rfl h6x12)))) <| st (GW.p (l := [83, 84]) (by first | exact GW.yes rfl rfl rfl rfl rfl rfl rfl (by exact AStepD.bool (AStepD.callf rfl en19 rfl (carry_calls _ s got hI.ok hlo)) hcg) | exact GW.no rfl rfl rfl rfl rfl rfl rfl | exact GW.none rfl rfl rfl rfl rfl | exact GW.may rfl rfl rfl rfl rfl rfl (fun hb => by (repeat (first | apply UW.yes rfl (gpf hb) | apply UW.no)); exact UW.nil (by exact AStepD.bool (AStepD.callf rfl en19 rfl (carry_calls _ s got hI.ok hlo)) hcg)) | exact GW.may2 rfl rfl rfl rfl rfl rfl (fun _ hb => by (repeat (first | apply UW.yes rfl (gpf hb) | apply UW.no)); exact UW.nil (by exact AStepD.bool (AStepD.callf rfl en19 rfl (carry_calls _ s got hI.ok hlo)) hcg)))) <| st (GW.p (l := [85]) (by first | exact GW.yes rfl rfl rfl rfl rfl rfl rfl (by first | exact AStepD.not rfl rfl | exact AStepD.neg rfl rfl (by first | exact IntWalk.i64_in _ (by omega) | exact IntWalk.i64_in _ (by simp only [Bool.or_eq_true, Bool.and_eq_true, Bool.or_eq_false_iff, Bool.and_eq_false_iff, Bool.not_eq_true', Bool.not_eq_false', decide_eq_true_eq, decide_eq_false_iff_not, Int.not_lt, Int.not_le, beq_iff_eq] at *; omega) | exact rfl)) | exact GW.no rfl rfl rfl rfl rfl rfl rfl | exact GW.none rfl rfl rfl rfl rfl | exact GW.may rfl rfl rfl rfl rfl rfl (fun hb => by (repeat (first | apply UW.yes rfl (gpf hb) | apply UW.no)); exact UW.nil (by first | exact AStepD.not rfl rfl | exact AStepD.neg rfl rfl (by first | exact IntWalk.i64_in _ (by omega) | exact IntWalk.i64_in _ (by simp only [Bool.or_eq_true, Bool.and_eq_true, Bool.or_eq_false_iff, Bool.and_eq_false_iff, Bool.not_eq_true', Bool.not_eq_false', decide_eq_true_eq, decide_eq_false_iff_not, Int.not_lt, Int.not_le, beq_iff_eq] at *; omega) | exact rfl))) | exact GW.may2 rfl rfl rfl rfl rfl rfl (fun _ hb => by (repeat (first | apply UW.yes rfl (gpf hb) | apply UW.no)); exact UW.nil (by first | exact AStepD.not rfl rfl | exact AStepD.neg rfl rfl (by first | exact IntWalk.i64_in _ (by omega) | exact IntWalk.i64_in _ (by simp only [Bool.or_eq_true, Bool.and_eq_true, Bool.or_eq_false_iff, Bool.and_eq_false_iff, Bool.not_eq_true', Bool.not_eq_false', decide_eq_true_eq, decide_eq_false_iff_not, Int.not_lt, Int.not_le, beq_iff_eq] at *; omega) | exact rfl))))) <| st (GW.p (l := [82, 86]) qK1010) <| st qK730 <| AL.nil ?_
          exact ⟨rfl, qK718⟩
      rintro T' H7 ⟨rfl, hs⟩
      refine AW.sub hs ?_
      clear hs
      refine AW.cond_false rfl rfl (AW.skip ?_)
      refine hK9 _ _ ?_; try clear hK9 K9
      refine AW.region ?_
      refine st (by exact SD.s rfl rfl rfl (by exact st_load hlo rfl rfl h6x12)) <| st0 (by exact ⟨rfl, rfl, (by exact st_store hlo rfl rfl rfl h6x8 (hI.ok.fc _) rfl)⟩) <| st qK725 <| AL.nil ?_
      refine hK6 _ _ ?_; try clear hK6 K6
      refine AW.region ?_
      refine st (by exact SD.s rfl rfl rfl (by first | exact AStepD.add rfl rfl rfl (by first | exact IntWalk.i64_in _ (by omega) | exact IntWalk.i64_in _ (by simp only [Bool.or_eq_true, Bool.and_eq_true, Bool.or_eq_false_iff, Bool.and_eq_false_iff, Bool.not_eq_true', Bool.not_eq_false', decide_eq_true_eq, decide_eq_false_iff_not, Int.not_lt, Int.not_le, beq_iff_eq] at *; omega) | exact rfl) | exact AStepD.str_add rfl rfl rfl (by omega))) <| st qK726 <| AL.nil ?_
      exact ⟨(i + 1, true), by show l.length - (i + 1) < l.length - i; omega, qK718, by show i + 1 ≤ l.length; omega, ⟨D'.calm, got, vecA got.known, h6d.same qK723 qK723, h5f, rfl, AHeap.get_set_same _ _ _, hlo, rfl, (fun h => by cases h), fun _ => ⟨hkg, rfl, hrg⟩⟩, qK714⟩
    · refine rg fun K hK => ?_
      refine st qK726 <| st (by exact SD.s rfl rfl rfl (by exact AStepD.bool (AStepD.eql rfl rfl rfl) (c := true) (by rw [hf52]; rfl))) <| st qK726 <| st (GW.p (l := [9]) qK731) <| st (GW.p (l := [75]) (by first | exact GW.yes rfl rfl rfl rfl rfl rfl rfl (by first | exact AStepD.not rfl rfl | exact AStepD.neg rfl rfl (by first | exact IntWalk.i64_in _ (by omega) | exact IntWalk.i64_in _ (by simp only [Bool.or_eq_true, Bool.and_eq_true, Bool.or_eq_false_iff, Bool.and_eq_false_iff, Bool.not_eq_true', Bool.not_eq_false', decide_eq_true_eq, decide_eq_false_iff_not, Int.not_lt, Int.not_le, beq_iff_eq] at *; omega) | exact rfl)) | exact GW.no rfl rfl rfl rfl rfl rfl rfl | exact GW.none rfl rfl rfl rfl rfl | exact GW.may rfl rfl rfl rfl rfl rfl (fun hb => by (repeat (first | apply UW.yes rfl (gpf hb) | apply UW.no)); exact UW.nil (by first | exact AStepD.not rfl rfl | exact AStepD.neg rfl rfl (by first | exact IntWalk.i64_in _ (by omega) | exact IntWalk.i64_in _ (by simp only [Bool.or_eq_true, Bool.and_eq_true, Bool.or_eq_false_iff, Bool.and_eq_false_iff, Bool.not_eq_true', Bool.not_eq_false', decide_eq_true_eq, decide_eq_false_iff_not, Int.not_lt, Int.not_le, beq_iff_eq] at *; omega) | exact rfl))) | exact GW.may2 rfl rfl rfl rfl rfl rfl (fun _ hb => by (repeat (first | apply UW.yes rfl (gpf hb) | apply UW.no)); exact UW.nil (by first | exact AStepD.not rfl rfl | exact AStepD.neg rfl rfl (by first | exact IntWalk.i64_in _ (by omega) | exact IntWalk.i64_in _ (by simp only [Bool.or_eq_true, Bool.and_eq_true, Bool.or_eq_false_iff, Bool.and_eq_false_iff, Bool.not_eq_true', Bool.not_eq_false', decide_eq_true_eq, decide_eq_false_iff_not, Int.not_lt, Int.not_le, beq_iff_eq] at *; omega) | exact rfl))))) <| st qK730 <| nt (hK _ _ ?_)
      clear hK K
      refine AW.cond_true rfl rfl ?_
      refine AW.exit ?_
      refine hK6 _ _ ?_; try clear hK6 K6
      refine AW.region ?_
      refine st (by exact SD.s rfl rfl rfl (by first | exact AStepD.add rfl rfl rfl (by first | exact IntWalk.i64_in _ (by omega) | exact IntWalk.i64_in _ (by simp only [Bool.or_eq_true, Bool.and_eq_true, Bool.or_eq_false_iff, Bool.and_eq_false_iff, Bool.not_eq_true', Bool.not_eq_false', decide_eq_true_eq, decide_eq_false_iff_not, Int.not_lt, Int.not_le, beq_iff_eq] at *; omega) | exact rfl) | exact AStepD.str_add rfl rfl rfl (by omega))) <| st qK726 <| AL.nil ?_
      exact ⟨(i + 1, false), by show l.length - (i + 1) < l.length - i; omega, qK718, by show i + 1 ≤ l.length; omega, ⟨D'.calm, s, y, h6d, h5f, rfl, h6x8, hI.ok, hI.one, fun _ => hk0, fun h => by cases h⟩, qK714⟩
  · (try simp only [Bool.or_eq_true, Bool.and_eq_true, Bool.or_eq_false_iff, Bool.and_eq_false_iff, Bool.not_eq_true', Bool.not_eq_false', decide_eq_true_eq, decide_eq_false_iff_not, Int.not_lt, Int.not_le] at hc)
    refine AW.exit ?_
    refine hK4 _ _ ?_; try clear hK4 K4
    refine rg fun K hK => ?_
    refine st qK725 <| nt (hK _ _ ?_)
    clear hK K
    exact AW.ret (RetQ.mk (.inr rfl) (retA_tmp rfl qK71 retA_nil) rfl)
end Go.Proofs.YtcomjodfkcnjhaaGreatDoor
