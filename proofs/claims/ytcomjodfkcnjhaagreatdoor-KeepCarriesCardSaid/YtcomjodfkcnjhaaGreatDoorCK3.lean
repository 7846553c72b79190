/- Walks: Carry. -/
import Derived.Test.YtcomjodfkcnjhaaGreatDoorCK2
import Derived.Test.YtcomjodfkcnjhaaGreatDoorCE4
set_option linter.unusedSimpArgs false
set_option linter.unusedVariables false
namespace Go.Proofs.YtcomjodfkcnjhaaGreatDoor
open Go.Ax
open Cel (c)
theorem qK111 {p : Prop} (h : p := by simp only [Nat.reduceAdd]; exact rfl) : p := h
theorem qK112 {p : Prop} (h : p := by first | exact one_cells (by with_reducible assumption) | exact qK71) : p := h
theorem qK113 {p : Prop} (h : p := by first | with_reducible assumption | exact Cel.one _ | exact flat_ones _ | exact ones_nil | (simp only [List.forall_mem_cons, List.not_mem_nil, false_implies, implies_true, and_true, one_v, one_ptr, one_ip, one_sl, one_slc, one_vec, one_map, one_func, one_iface, Value.oneCell', *]; done) | (simp [AV.one, Value.oneCell', *]; done)) : p := h
theorem qK114 {p : Prop} (h : p := by first | ((with_reducible refine over_all ?_); exact rfl) | (simp only [over, List.take_succ_cons, List.take_zero, List.drop_succ_cons, List.drop_zero, List.length_cons, List.length_nil, List.nil_append, List.cons_append, Nat.reduceAdd, Nat.zero_add, List.drop_nil, List.append_nil]; exact rfl) | conv => lhs; whnf) : p := h
theorem qK115 {p : Prop} (h : p := by first | exact GW.yes rfl rfl rfl rfl rfl rfl rfl qK727 | exact GW.no rfl rfl rfl rfl rfl rfl rfl | exact GW.none rfl rfl rfl rfl rfl | exact GW.may rfl rfl rfl rfl rfl rfl (fun hb => by (repeat (first | apply UW.yes rfl (gpf hb) | apply UW.no)); exact UW.nil qK727) | exact GW.may2 rfl rfl rfl rfl rfl rfl (fun _ hb => by (repeat (first | apply UW.yes rfl (gpf hb) | apply UW.no)); exact UW.nil qK727)) : p := h
theorem qK116 {p : Prop} (h : p := by first | exact GW.yes rfl rfl rfl rfl rfl rfl rfl (by fail) | exact GW.no rfl rfl rfl rfl rfl rfl rfl | exact GW.none rfl rfl rfl rfl rfl | exact GW.may rfl rfl rfl rfl rfl rfl (fun hb => by (repeat (first | apply UW.yes rfl (gpf hb) | apply UW.no)); exact UW.nil (by fail)) | exact GW.may2 rfl rfl rfl rfl rfl rfl (fun _ hb => by (repeat (first | apply UW.yes rfl (gpf hb) | apply UW.no)); exact UW.nil (by fail))) : p := h
theorem qK117 {p : Prop} (h : p := by first | with_reducible assumption | exact rfl) : p := h
theorem qK118 {p : Prop} (h : p := by exact (fun hb => by (repeat (first | apply UW.yes rfl (gpf hb) | apply UW.no)); exact UW.nil qK712)) : p := h
theorem qK119 {p : Prop} (h : p := by exact (fun _ hb => by (repeat (first | apply UW.yes rfl (gpf hb) | apply UW.no)); exact UW.nil qK712)) : p := h
theorem qK1110 {p : Prop} (h : p := by exact AStepD.geq rfl rfl rfl) : p := h
theorem qK1111 {p : Prop} (h : p := by first | exact Nat.zero_add 2 | exact (show _ + 2 = _ from qK111) | exact (show _ + 2 = _ + 2 from rfl) | exact rfl) : p := h
theorem qK1112 {p : Prop} (h : p := by exact AStepD.store' tok rfl rfl qK720 qK71 qK112 qK113 rfl qK71 rfl qK77 qK114) : p := h
theorem qK1113 {p : Prop} (h : p := by first | exact Nat.zero_add 0 | exact (show _ + 0 = _ from qK111) | exact (show _ + 0 = _ + 0 from rfl) | exact rfl) : p := h
theorem qK1114 {p : Prop} (h : p := by first | exact AStepD.load_one tok rfl rfl rfl rfl qK720 rfl qK117 | exact AStepD.load_one_ip tok rfl rfl rfl rfl rfl qK117) : p := h
theorem qK1115 {p : Prop} (h : p := by first | exact GW.yes rfl rfl rfl rfl rfl rfl rfl qK712 | exact GW.no rfl rfl rfl rfl rfl rfl rfl | exact GW.none rfl rfl rfl rfl rfl | exact GW.may rfl rfl rfl rfl rfl rfl qK118 | exact GW.may2 rfl rfl rfl rfl rfl rfl qK119) : p := h
theorem qK1116 {p : Prop} (h : p := by exact (fun hb => by (repeat (first | apply UW.yes rfl (gpf hb) | apply UW.no)); exact UW.nil qK1110)) : p := h
theorem qK1117 {p : Prop} (h : p := by exact (fun _ hb => by (repeat (first | apply UW.yes rfl (gpf hb) | apply UW.no)); exact UW.nil qK1110)) : p := h
theorem qK1118 {p : Prop} (h : p := by first | exact Nat.zero_add 1 | exact (show _ + 1 = _ from qK111) | exact (show _ + 1 = _ + 1 from rfl) | exact rfl) : p := h
theorem qK1119 {p : Prop} (h : p := by first | exact AStepD.fieldAddr' tok rfl rfl rfl rfl rfl rfl rfl qK1111 | exact AStepD.fieldAddr_ip' tok rfl rfl rfl rfl rfl rfl rfl (show List.drop 2 _ = _ from rfl)) : p := h
theorem qK1120 {p : Prop} (h : p := by first | exact AStepD.fieldAddr' tok rfl rfl rfl rfl rfl rfl rfl qK1113 | exact AStepD.fieldAddr_ip' tok rfl rfl rfl rfl rfl rfl rfl List.drop_zero) : p := h
theorem qK1121 {p : Prop} (h : p := by exact (fun hb => by (repeat (first | apply UW.yes rfl (gpf hb) | apply UW.no)); exact UW.nil qK1114)) : p := h
theorem qK1122 {p : Prop} (h : p := by exact (fun _ hb => by (repeat (first | apply UW.yes rfl (gpf hb) | apply UW.no)); exact UW.nil qK1114)) : p := h
theorem qK1123 {p : Prop} (h : p := by first | exact GW.yes rfl rfl rfl rfl rfl rfl rfl qK1110 | exact GW.no rfl rfl rfl rfl rfl rfl rfl | exact GW.none rfl rfl rfl rfl rfl | exact GW.may rfl rfl rfl rfl rfl rfl qK1116 | exact GW.may2 rfl rfl rfl rfl rfl rfl qK1117) : p := h
theorem qK1124 {p : Prop} (h : p := by first | exact AStepD.fieldAddr' tok rfl rfl rfl rfl rfl rfl rfl qK1118 | exact AStepD.fieldAddr_ip' tok rfl rfl rfl rfl rfl rfl rfl (show List.drop 1 _ = _ from rfl)) : p := h
theorem qK1125 {p : Prop} (h : p := by exact (fun hb => by (repeat (first | apply UW.yes rfl (gpf hb) | apply UW.no)); exact UW.nil qK1120)) : p := h
theorem qK1126 {p : Prop} (h : p := by exact (fun _ hb => by (repeat (first | apply UW.yes rfl (gpf hb) | apply UW.no)); exact UW.nil qK1120)) : p := h
theorem qK1127 {p : Prop} (h : p := by first | exact GW.yes rfl rfl rfl rfl rfl rfl rfl qK1114 | exact GW.no rfl rfl rfl rfl rfl rfl rfl | exact GW.none rfl rfl rfl rfl rfl | exact GW.may rfl rfl rfl rfl rfl rfl qK1121 | exact GW.may2 rfl rfl rfl rfl rfl rfl qK1122) : p := h
theorem qK1128 {p : Prop} (h : p := by exact (fun hb => by (repeat (first | apply UW.yes rfl (gpf hb) | apply UW.no)); exact UW.nil qK1124)) : p := h
theorem qK1129 {p : Prop} (h : p := by exact (fun _ hb => by (repeat (first | apply UW.yes rfl (gpf hb) | apply UW.no)); exact UW.nil qK1124)) : p := h
theorem qK1130 {p : Prop} (h : p := by exact (fun hb => by (repeat (first | apply UW.yes rfl (gpf hb) | apply UW.no)); exact UW.nil qK1119)) : p := h
theorem qK1131 {p : Prop} (h : p := by exact (fun _ hb => by (repeat (first | apply UW.yes rfl (gpf hb) | apply UW.no)); exact UW.nil qK1119)) : p := h
theorem qK1132 {p : Prop} (h : p := by first | exact GW.yes rfl rfl rfl rfl rfl rfl rfl qK1120 | exact GW.no rfl rfl rfl rfl rfl rfl rfl | exact GW.none rfl rfl rfl rfl rfl | exact GW.may rfl rfl rfl rfl rfl rfl qK1125 | exact GW.may2 rfl rfl rfl rfl rfl rfl qK1126) : p := h
theorem qK1133 {p : Prop} (h : p := by first | exact GW.yes rfl rfl rfl rfl rfl rfl rfl qK1124 | exact GW.no rfl rfl rfl rfl rfl rfl rfl | exact GW.none rfl rfl rfl rfl rfl | exact GW.may rfl rfl rfl rfl rfl rfl qK1128 | exact GW.may2 rfl rfl rfl rfl rfl rfl qK1129) : p := h
theorem qK1134 {p : Prop} (h : p := by first | exact GW.yes rfl rfl rfl rfl rfl rfl rfl qK1119 | exact GW.no rfl rfl rfl rfl rfl rfl rfl | exact GW.none rfl rfl rfl rfl rfl | exact GW.may rfl rfl rfl rfl rfl rfl qK1130 | exact GW.may2 rfl rfl rfl rfl rfl rfl qK1131) : p := h
set_option linter.unusedSimpArgs false
set_option linter.unusedVariables false
set_option maxRecDepth 20000
open Cel (c)

abbrev epA (s : Stt) : AV := .agg [.v (.int .i64 s.cur), .v (.int .i64 s.vote), .v (.int .i64 s.cfg)]
abbrev epL (s : Stt) : List AV := [.v (.int .i64 s.cur), .v (.int .i64 s.vote), .v (.int .i64 s.cfg)]
theorem carry_calls (H : AHeap) (a b : Stt) (ha : a.Ok) (hb : b.Ok) : ACalls Tryz.prog 19 [stA a, stA b] H (fun r H' => r = .v (.bool (carryB a b)) ∧ H' = H) := by
  have hca := ha.fc (vecA a.known)
  have hcb := hb.fc (vecA b.known)
  refine ACalls.quiet_keep ?_ (.v _)
  refine ACalls.of_body tok Tryz.func19 rfl Tryz.ntmps19 (Nat.le_of_ble_eq_true rfl) (fun base => ?_)
  refine rg fun K hK => ?_
  refine st (by exact SD.s rfl rfl rfl (by exact AStepD.box (cs := a.cs (vecA a.known)) rfl rfl (a.cs_one rfl))) <| st (by exact SD.s rfl rfl rfl (by exact AStepD.box (cs := b.cs (vecA b.known)) rfl rfl (b.cs_one rfl))) <| st qK725 <| nt (hK _ _ ?_)
  clear hK K
  refine AW.cut (fun T' H' => ∃ X Y : Nat, H.next + 1 < X ∧ H.next + 1 < Y ∧ H'.get X = some (.cells 28 (epL a)) ∧ H'.get Y = some (.cells 28 (epL b)) ∧ H'.get H.next = some (.cells 34 (a.cs (vecA a.known))) ∧ H'.get (H.next + 1) = some (.cells 34 (b.cs (vecA b.known))) ∧ Keep H H' ∧ SubT T' [(5, .ptr X 0), (6, .ptr Y 0), (2, .ptr H.next 0), (3, .ptr (H.next + 1) 0)]) ?_ ?_
  · have g2 : ((H.new (.cells 34 (a.cs (vecA a.known)))).new (.cells 34 (b.cs (vecA b.known)))).get H.next = some (.cells 34 (a.cs (vecA a.known))) := qK720
    have g3 : ((H.new (.cells 34 (a.cs (vecA a.known)))).new (.cells 34 (b.cs (vecA b.known)))).get (H.next + 1) = some (.cells 34 (b.cs (vecA b.known))) := qK720
    have hkp : Keep H ((H.new (.cells 34 (a.cs (vecA a.known)))).new (.cells 34 (b.cs (vecA b.known)))) := (by repeat' (first | exact Keep.refl _ | apply Keep.new | apply Keep.set | apply Keep.del | (first | omega | (simp only [za, zb, zc]; omega))))
    have hnx : ((H.new (.cells 34 (a.cs (vecA a.known)))).new (.cells 34 (b.cs (vecA b.known)))).next = H.next + 2 := rfl
    show AW _ _ _ _ _ ((H.new (.cells 34 (a.cs (vecA a.known)))).new (.cells 34 (b.cs (vecA b.known)))) _
    generalize (H.new (.cells 34 (a.cs (vecA a.known)))).new (.cells 34 (b.cs (vecA b.known))) = H1 at g2 g3 hkp hnx
    have hz : AV.ofV (tt 28).zero = [.v (.int .i64 0), .v (.int .i64 0), .v (.int .i64 0)] := rfl
    refine AW.draw2 mixed 4 5 4 [6, 7]
      [.ptr H.next 2, epA a, .ptr (H.next + 1) 2, epA b, .ptr H1.next 0, .ptr (H1.next + 1) 0, .any, .any]
      [.ptr H.next 2, epA a, .ptr (H.next + 1) 2, epA b, .ptr (H1.next + 1) 0, .ptr H1.next 0, .any, .any]
      [H1, H1.new (.cells 28 (AV.ofV (tt 28).zero)), (H1.new (.cells 28 (AV.ofV (tt 28).zero))).new (.cells 28 (AV.ofV (tt 28).zero)), ((H1.new (.cells 28 (AV.ofV (tt 28).zero))).new (.cells 28 (AV.ofV (tt 28).zero))).set H1.next (.cells 28 (epL a)), (((H1.new (.cells 28 (AV.ofV (tt 28).zero))).new (.cells 28 (AV.ofV (tt 28).zero))).set H1.next (.cells 28 (epL a))).set (H1.next + 1) (.cells 28 (epL b))]
      [H1, H1.new (.cells 28 (AV.ofV (tt 28).zero)), (H1.new (.cells 28 (AV.ofV (tt 28).zero))).new (.cells 28 (AV.ofV (tt 28).zero)), ((H1.new (.cells 28 (AV.ofV (tt 28).zero))).new (.cells 28 (AV.ofV (tt 28).zero))).set (H1.next + 1) (.cells 28 (epL a)), (((H1.new (.cells 28 (AV.ofV (tt 28).zero))).new (.cells 28 (AV.ofV (tt 28).zero))).set (H1.next + 1) (.cells 28 (epL a))).set H1.next (.cells 28 (epL b))]
      [(0, 0), (0, 1), (0, 2), (1, 0), (1, 1), (1, 2), (2, 0), (2, 1), (2, 2), (2, 3), (3, 0), (3, 1), (3, 2), (3, 3), (4, 0), (5, 1), (6, 2), (7, 3)] [(0, 0), (0, 1), (0, 2), (1, 0), (1, 1), (1, 2), (2, 0), (2, 1), (2, 2), (2, 3), (3, 0), (3, 1), (3, 2), (3, 3), (4, 1), (5, 0), (6, 2), (7, 3)] rfl rfl rfl (by decide) rfl rfl rfl rfl rfl rfl rfl rfl ?_ ?_ rfl ?_ ?_
    · refine ⟨?_, ?_, ?_, ?_, ?_, ?_, ?_, ?_, ?_, ?_, ?_, ?_, ?_, ?_, ?_, ?_, ?_, ?_⟩
      · refine Ob.mk _ [2] 0 rfl rfl (restr_cons qK71 restr_nil) rfl ?_
        simp only [List.getD_cons_zero, List.getD_cons_succ]
        exact GStep.plain rfl qK1119
      · refine Ob.mk _ [2] 1 rfl rfl (restr_cons qK71 restr_nil) rfl ?_
        simp only [List.getD_cons_zero, List.getD_cons_succ]
        exact GStep.plain rfl qK1119
      · refine Ob.mk _ [2] 2 rfl rfl (restr_cons qK71 restr_nil) rfl ?_
        simp only [List.getD_cons_zero, List.getD_cons_succ]
        exact GStep.plain rfl qK1119
      · refine Ob.mk _ [7] 0 rfl rfl (restr_cons qK71 restr_nil) rfl ?_
        simp only [List.getD_cons_zero, List.getD_cons_succ]
        exact GStep.plain rfl (by exact AStepD.load_agg (cs := a.cs (vecA a.known)) (zs := epL a) tok rfl rfl rfl qK720 rfl (show _ = 3 from rfl) (by omega) rfl)
      · refine Ob.mk _ [7] 1 rfl rfl (restr_cons qK71 restr_nil) rfl ?_
        simp only [List.getD_cons_zero, List.getD_cons_succ]
        exact GStep.plain rfl (by exact AStepD.load_agg (cs := a.cs (vecA a.known)) (zs := epL a) tok rfl rfl rfl qK720 rfl (show _ = 3 from rfl) (by omega) rfl)
      · refine Ob.mk _ [7] 2 rfl rfl (restr_cons qK71 restr_nil) rfl ?_
        simp only [List.getD_cons_zero, List.getD_cons_succ]
        exact GStep.plain rfl (by exact AStepD.load_agg (cs := a.cs (vecA a.known)) (zs := epL a) tok rfl rfl rfl qK720 rfl (show _ = 3 from rfl) (by omega) rfl)
      · refine Ob.mk _ [3] 0 rfl rfl (restr_cons qK71 restr_nil) rfl ?_
        simp only [List.getD_cons_zero, List.getD_cons_succ]
        exact GStep.plain rfl qK1119
      · refine Ob.mk _ [3] 1 rfl rfl (restr_cons qK71 restr_nil) rfl ?_
        simp only [List.getD_cons_zero, List.getD_cons_succ]
        exact GStep.plain rfl qK1119
      · refine Ob.mk _ [3] 2 rfl rfl (restr_cons qK71 restr_nil) rfl ?_
        simp only [List.getD_cons_zero, List.getD_cons_succ]
        exact GStep.plain rfl qK1119
      · refine Ob.mk _ [3] 3 rfl rfl (restr_cons qK71 restr_nil) rfl ?_
        simp only [List.getD_cons_zero, List.getD_cons_succ]
        exact GStep.plain rfl qK1119
      · refine Ob.mk _ [9] 0 rfl rfl (restr_cons qK71 restr_nil) rfl ?_
        simp only [List.getD_cons_zero, List.getD_cons_succ]
        exact GStep.plain rfl (by exact AStepD.load_agg (cs := b.cs (vecA b.known)) (zs := epL b) tok rfl rfl rfl qK720 rfl (show _ = 3 from rfl) (by omega) rfl)
      · refine Ob.mk _ [9] 1 rfl rfl (restr_cons qK71 restr_nil) rfl ?_
        simp only [List.getD_cons_zero, List.getD_cons_succ]
        exact GStep.plain rfl (by exact AStepD.load_agg (cs := b.cs (vecA b.known)) (zs := epL b) tok rfl rfl rfl qK720 rfl (show _ = 3 from rfl) (by omega) rfl)
      · refine Ob.mk _ [9] 2 rfl rfl (restr_cons qK71 restr_nil) rfl ?_
        simp only [List.getD_cons_zero, List.getD_cons_succ]
        exact GStep.plain rfl (by exact AStepD.load_agg (cs := b.cs (vecA b.known)) (zs := epL b) tok rfl rfl rfl qK720 rfl (show _ = 3 from rfl) (by omega) rfl)
      · refine Ob.mk _ [9] 3 rfl rfl (restr_cons qK71 restr_nil) rfl ?_
        simp only [List.getD_cons_zero, List.getD_cons_succ]
        exact GStep.plain rfl (by exact AStepD.load_agg (cs := b.cs (vecA b.known)) (zs := epL b) tok rfl rfl rfl qK720 rfl (show _ = 3 from rfl) (by omega) rfl)
      · refine Ob.mk _ [] 1 rfl rfl restr_nil rfl ?_
        simp only [List.getD_cons_zero, List.getD_cons_succ]
        exact GStep.plain rfl qK79
      · refine Ob.mk _ [] 2 rfl rfl restr_nil rfl ?_
        simp only [List.getD_cons_zero, List.getD_cons_succ]
        exact GStep.plain rfl qK79
      · refine Ob.mk _ [5, 8] 3 rfl rfl (restr_cons qK71 (restr_cons qK71 restr_nil)) rfl ?_
        simp only [List.getD_cons_zero, List.getD_cons_succ]
        exact GStep.plain rfl qK1112
      · refine Ob.mk _ [6, 10] 4 rfl rfl (restr_cons qK71 (restr_cons qK71 restr_nil)) rfl ?_
        simp only [List.getD_cons_zero, List.getD_cons_succ]
        exact GStep.plain rfl qK1112
    · refine ⟨?_, ?_, ?_, ?_, ?_, ?_, ?_, ?_, ?_, ?_, ?_, ?_, ?_, ?_, ?_, ?_, ?_, ?_⟩
      · refine Ob.mk _ [2] 0 rfl rfl (restr_cons qK71 restr_nil) rfl ?_
        simp only [List.getD_cons_zero, List.getD_cons_succ]
        exact GStep.plain rfl qK1119
      · refine Ob.mk _ [2] 1 rfl rfl (restr_cons qK71 restr_nil) rfl ?_
        simp only [List.getD_cons_zero, List.getD_cons_succ]
        exact GStep.plain rfl qK1119
      · refine Ob.mk _ [2] 2 rfl rfl (restr_cons qK71 restr_nil) rfl ?_
        simp only [List.getD_cons_zero, List.getD_cons_succ]
        exact GStep.plain rfl qK1119
      · refine Ob.mk _ [7] 0 rfl rfl (restr_cons qK71 restr_nil) rfl ?_
        simp only [List.getD_cons_zero, List.getD_cons_succ]
        exact GStep.plain rfl (by exact AStepD.load_agg (cs := a.cs (vecA a.known)) (zs := epL a) tok rfl rfl rfl qK720 rfl (show _ = 3 from rfl) (by omega) rfl)
      · refine Ob.mk _ [7] 1 rfl rfl (restr_cons qK71 restr_nil) rfl ?_
        simp only [List.getD_cons_zero, List.getD_cons_succ]
        exact GStep.plain rfl (by exact AStepD.load_agg (cs := a.cs (vecA a.known)) (zs := epL a) tok rfl rfl rfl qK720 rfl (show _ = 3 from rfl) (by omega) rfl)
      · refine Ob.mk _ [7] 2 rfl rfl (restr_cons qK71 restr_nil) rfl ?_
        simp only [List.getD_cons_zero, List.getD_cons_succ]
        exact GStep.plain rfl (by exact AStepD.load_agg (cs := a.cs (vecA a.known)) (zs := epL a) tok rfl rfl rfl qK720 rfl (show _ = 3 from rfl) (by omega) rfl)
      · refine Ob.mk _ [3] 0 rfl rfl (restr_cons qK71 restr_nil) rfl ?_
        simp only [List.getD_cons_zero, List.getD_cons_succ]
        exact GStep.plain rfl qK1119
      · refine Ob.mk _ [3] 1 rfl rfl (restr_cons qK71 restr_nil) rfl ?_
        simp only [List.getD_cons_zero, List.getD_cons_succ]
        exact GStep.plain rfl qK1119
      · refine Ob.mk _ [3] 2 rfl rfl (restr_cons qK71 restr_nil) rfl ?_
        simp only [List.getD_cons_zero, List.getD_cons_succ]
        exact GStep.plain rfl qK1119
      · refine Ob.mk _ [3] 3 rfl rfl (restr_cons qK71 restr_nil) rfl ?_
        simp only [List.getD_cons_zero, List.getD_cons_succ]
        exact GStep.plain rfl qK1119
      · refine Ob.mk _ [9] 0 rfl rfl (restr_cons qK71 restr_nil) rfl ?_
        simp only [List.getD_cons_zero, List.getD_cons_succ]
        exact GStep.plain rfl (by exact AStepD.load_agg (cs := b.cs (vecA b.known)) (zs := epL b) tok rfl rfl rfl qK720 rfl (show _ = 3 from rfl) (by omega) rfl)
      · refine Ob.mk _ [9] 1 rfl rfl (restr_cons qK71 restr_nil) rfl ?_
        simp only [List.getD_cons_zero, List.getD_cons_succ]
        exact GStep.plain rfl (by exact AStepD.load_agg (cs := b.cs (vecA b.known)) (zs := epL b) tok rfl rfl rfl qK720 rfl (show _ = 3 from rfl) (by omega) rfl)
      · refine Ob.mk _ [9] 2 rfl rfl (restr_cons qK71 restr_nil) rfl ?_
        simp only [List.getD_cons_zero, List.getD_cons_succ]
        exact GStep.plain rfl (by exact AStepD.load_agg (cs := b.cs (vecA b.known)) (zs := epL b) tok rfl rfl rfl qK720 rfl (show _ = 3 from rfl) (by omega) rfl)
      · refine Ob.mk _ [9] 3 rfl rfl (restr_cons qK71 restr_nil) rfl ?_
        simp only [List.getD_cons_zero, List.getD_cons_succ]
        exact GStep.plain rfl (by exact AStepD.load_agg (cs := b.cs (vecA b.known)) (zs := epL b) tok rfl rfl rfl qK720 rfl (show _ = 3 from rfl) (by omega) rfl)
      · refine Ob.mk _ [] 2 rfl rfl restr_nil rfl ?_
        simp only [List.getD_cons_zero, List.getD_cons_succ]
        exact GStep.plain rfl qK79
      · refine Ob.mk _ [] 1 rfl rfl restr_nil rfl ?_
        simp only [List.getD_cons_zero, List.getD_cons_succ]
        exact GStep.plain rfl qK79
      · refine Ob.mk _ [5, 8] 3 rfl rfl (restr_cons qK71 (restr_cons qK71 restr_nil)) rfl ?_
        simp only [List.getD_cons_zero, List.getD_cons_succ]
        exact GStep.plain rfl qK1112
      · refine Ob.mk _ [6, 10] 4 rfl rfl (restr_cons qK71 (restr_cons qK71 restr_nil)) rfl ?_
        simp only [List.getD_cons_zero, List.getD_cons_succ]
        exact GStep.plain rfl qK1112
    · simp only [List.length_cons, List.length_nil, Nat.zero_add, Nat.reduceAdd, List.getD_cons_zero, List.getD_cons_succ]
      exact ⟨H1.next, H1.next + 1, by omega, by omega, qK720, qK720, qK720, qK720, qK711, qK718⟩
    · simp only [List.length_cons, List.length_nil, Nat.zero_add, Nat.reduceAdd, List.getD_cons_zero, List.getD_cons_succ]
      exact ⟨H1.next + 1, H1.next, by omega, by omega, qK720, qK720, qK720, qK720, qK711, qK718⟩
  rintro T' H2 ⟨X, Y, hX, hY, gX, gY, g2, g3, hk, hs⟩
  refine AW.sub hs ?_
  clear hs
  cases hra : rightB a with
  | false =>
    refine rg fun K hK => ?_
    refine st (by exact SD.s rfl rfl rfl (by exact st_load ha rfl rfl g2)) <| st (by exact SD.s rfl rfl rfl (by exact AStepD.bool (AStepD.callf rfl en20 rfl (right_calls _ a ha)) hra)) <| st qK726 <| st (GW.p (l := [3]) qK115) <| st (GW.p (l := [14]) qK116) <| st qK730 <| st qK726 <| st (GW.p (l := [2]) qK1132) <| st (GW.p (l := [18]) qK1127) <| st (GW.p (l := [3]) qK1132) <| st (GW.p (l := [20]) qK1127) <| st (GW.p (l := [19, 21]) qK1115) <| st qK730 <| st qK726 <| st (GW.p (l := [6]) qK1132) <| st (GW.p (l := [25]) qK1127) <| st (GW.p (l := [5]) qK1132) <| st (GW.p (l := [27]) qK1127) <| st (GW.p (l := [26, 28]) qK1123) <| st qK730 <| st qK726 <| st (GW.p (l := [6]) qK1133) <| st (GW.p (l := [32]) qK1127) <| st (GW.p (l := [5]) qK1133) <| st (GW.p (l := [34]) qK1127) <| st (GW.p (l := [33, 35]) qK1123) <| st qK730 <| st qK726 <| st (GW.p (l := [6]) qK1134) <| st (GW.p (l := [39]) qK1127) <| st (GW.p (l := [5]) qK1134) <| st (GW.p (l := [41]) qK1127) <| st (GW.p (l := [40, 42]) qK1123) <| st qK730 <| st qK725 <| nt (hK _ _ ?_)
    clear hK K
    refine AW.ret (RetQ.mk (.inr rfl) (retA_tmp rfl qK71 retA_nil) ⟨by rw [carryB, hra]; rfl, hk⟩)
  | true =>
  cases hrb : rightB b with
  | false =>
    refine rg fun K hK => ?_
    refine st (by exact SD.s rfl rfl rfl (by exact st_load ha rfl rfl g2)) <| st (by exact SD.s rfl rfl rfl (by exact AStepD.bool (AStepD.callf rfl en20 rfl (right_calls _ a ha)) hra)) <| st qK726 <| st (GW.p (l := [3]) (by first | exact GW.yes rfl rfl rfl rfl rfl rfl rfl (by exact st_load hb rfl rfl g3) | exact GW.no rfl rfl rfl rfl rfl rfl rfl | exact GW.none rfl rfl rfl rfl rfl | exact GW.may rfl rfl rfl rfl rfl rfl (fun hb => by (repeat (first | apply UW.yes rfl (gpf hb) | apply UW.no)); exact UW.nil (by exact st_load hb rfl rfl g3)) | exact GW.may2 rfl rfl rfl rfl rfl rfl (fun _ hb => by (repeat (first | apply UW.yes rfl (gpf hb) | apply UW.no)); exact UW.nil (by exact st_load hb rfl rfl g3)))) <| st (GW.p (l := [14]) (by first | exact GW.yes rfl rfl rfl rfl rfl rfl rfl (by exact AStepD.bool (AStepD.callf rfl en20 rfl (right_calls _ b hb)) hrb) | exact GW.no rfl rfl rfl rfl rfl rfl rfl | exact GW.none rfl rfl rfl rfl rfl | exact GW.may rfl rfl rfl rfl rfl rfl (fun hb => by (repeat (first | apply UW.yes rfl (gpf hb) | apply UW.no)); exact UW.nil (by exact AStepD.bool (AStepD.callf rfl en20 rfl (right_calls _ b hb)) hrb)) | exact GW.may2 rfl rfl rfl rfl rfl rfl (fun _ hb => by (repeat (first | apply UW.yes rfl (gpf hb) | apply UW.no)); exact UW.nil (by exact AStepD.bool (AStepD.callf rfl en20 rfl (right_calls _ b hb)) hrb)))) <| st qK730 <| st qK726 <| st (GW.p (l := [2]) qK1132) <| st (GW.p (l := [18]) qK1127) <| st (GW.p (l := [3]) qK1132) <| st (GW.p (l := [20]) qK1127) <| st (GW.p (l := [19, 21]) qK1115) <| st qK730 <| st qK726 <| st (GW.p (l := [6]) qK1132) <| st (GW.p (l := [25]) qK1127) <| st (GW.p (l := [5]) qK1132) <| st (GW.p (l := [27]) qK1127) <| st (GW.p (l := [26, 28]) qK1123) <| st qK730 <| st qK726 <| st (GW.p (l := [6]) qK1133) <| st (GW.p (l := [32]) qK1127) <| st (GW.p (l := [5]) qK1133) <| st (GW.p (l := [34]) qK1127) <| st (GW.p (l := [33, 35]) qK1123) <| st qK730 <| st qK726 <| st (GW.p (l := [6]) qK1134) <| st (GW.p (l := [39]) qK1127) <| st (GW.p (l := [5]) qK1134) <| st (GW.p (l := [41]) qK1127) <| st (GW.p (l := [40, 42]) qK1123) <| st qK730 <| st qK725 <| nt (hK _ _ ?_)
    clear hK K
    refine AW.ret (RetQ.mk (.inr rfl) (retA_tmp rfl qK71 retA_nil) ⟨by rw [carryB, hra, hrb]; rfl, hk⟩)
  | true =>
    obtain ⟨b1, e1⟩ : ∃ q, decide (a.id = b.id) = q := ⟨_, rfl⟩
    obtain ⟨b2, e2⟩ : ∃ q, decide (b.cur ≥ a.cur) = q := ⟨_, rfl⟩
    obtain ⟨b3, e3⟩ : ∃ q, decide (b.vote ≥ a.vote) = q := ⟨_, rfl⟩
    obtain ⟨b4, e4⟩ : ∃ q, decide (b.cfg ≥ a.cfg) = q := ⟨_, rfl⟩
    have hcb2 : carryB a b = (b1 && b2 && b3 && b4) := by rw [carryB, hra, hrb, ← e1, ← e2, ← e3, ← e4]; rfl
    rw [hcb2]
    clear hcb2
    cases b1 <;> cases b2 <;> cases b3 <;> cases b4
    all_goals
      refine rg fun K hK => ?_
      refine st (by exact SD.s rfl rfl rfl (by exact st_load ha rfl rfl g2)) <| st (by exact SD.s rfl rfl rfl (by exact AStepD.bool (AStepD.callf rfl en20 rfl (right_calls _ a ha)) hra)) <| st qK726 <| st (GW.p (l := [3]) (by first | exact GW.yes rfl rfl rfl rfl rfl rfl rfl (by exact st_load hb rfl rfl g3) | exact GW.no rfl rfl rfl rfl rfl rfl rfl | exact GW.none rfl rfl rfl rfl rfl | exact GW.may rfl rfl rfl rfl rfl rfl (fun hb => by (repeat (first | apply UW.yes rfl (gpf hb) | apply UW.no)); exact UW.nil (by exact st_load hb rfl rfl g3)) | exact GW.may2 rfl rfl rfl rfl rfl rfl (fun _ hb => by (repeat (first | apply UW.yes rfl (gpf hb) | apply UW.no)); exact UW.nil (by exact st_load hb rfl rfl g3)))) <| st (GW.p (l := [14]) (by first | exact GW.yes rfl rfl rfl rfl rfl rfl rfl (by exact AStepD.bool (AStepD.callf rfl en20 rfl (right_calls _ b hb)) hrb) | exact GW.no rfl rfl rfl rfl rfl rfl rfl | exact GW.none rfl rfl rfl rfl rfl | exact GW.may rfl rfl rfl rfl rfl rfl (fun hb => by (repeat (first | apply UW.yes rfl (gpf hb) | apply UW.no)); exact UW.nil (by exact AStepD.bool (AStepD.callf rfl en20 rfl (right_calls _ b hb)) hrb)) | exact GW.may2 rfl rfl rfl rfl rfl rfl (fun _ hb => by (repeat (first | apply UW.yes rfl (gpf hb) | apply UW.no)); exact UW.nil (by exact AStepD.bool (AStepD.callf rfl en20 rfl (right_calls _ b hb)) hrb)))) <| st qK730 <| st qK726 <| st (GW.p (l := [2]) qK1132) <| st (GW.p (l := [18]) qK1127) <| st (GW.p (l := [3]) qK1132) <| st (GW.p (l := [20]) qK1127) <| st (GW.p (l := [19, 21]) (by first | exact GW.yes rfl rfl rfl rfl rfl rfl rfl (by exact AStepD.bool (AStepD.eql rfl rfl rfl) e1) | exact GW.no rfl rfl rfl rfl rfl rfl rfl | exact GW.none rfl rfl rfl rfl rfl | exact GW.may rfl rfl rfl rfl rfl rfl (fun hb => by (repeat (first | apply UW.yes rfl (gpf hb) | apply UW.no)); exact UW.nil (by exact AStepD.bool (AStepD.eql rfl rfl rfl) e1)) | exact GW.may2 rfl rfl rfl rfl rfl rfl (fun _ hb => by (repeat (first | apply UW.yes rfl (gpf hb) | apply UW.no)); exact UW.nil (by exact AStepD.bool (AStepD.eql rfl rfl rfl) e1)))) <| st qK730 <| st qK726 <| st (GW.p (l := [6]) qK1132) <| st (GW.p (l := [25]) qK1127) <| st (GW.p (l := [5]) qK1132) <| st (GW.p (l := [27]) qK1127) <| st (GW.p (l := [26, 28]) (by first | exact GW.yes rfl rfl rfl rfl rfl rfl rfl (by exact AStepD.bool (AStepD.geq rfl rfl rfl) e2) | exact GW.no rfl rfl rfl rfl rfl rfl rfl | exact GW.none rfl rfl rfl rfl rfl | exact GW.may rfl rfl rfl rfl rfl rfl (fun hb => by (repeat (first | apply UW.yes rfl (gpf hb) | apply UW.no)); exact UW.nil (by exact AStepD.bool (AStepD.geq rfl rfl rfl) e2)) | exact GW.may2 rfl rfl rfl rfl rfl rfl (fun _ hb => by (repeat (first | apply UW.yes rfl (gpf hb) | apply UW.no)); exact UW.nil (by exact AStepD.bool (AStepD.geq rfl rfl rfl) e2)))) <| st qK730 <| st qK726 <| st (GW.p (l := [6]) qK1133) <| st (GW.p (l := [32]) qK1127) <| st (GW.p (l := [5]) qK1133) <| st (GW.p (l := [34]) qK1127) <| st (GW.p (l := [33, 35]) (by first | exact GW.yes rfl rfl rfl rfl rfl rfl rfl (by exact AStepD.bool (AStepD.geq rfl rfl rfl) e3) | exact GW.no rfl rfl rfl rfl rfl rfl rfl | exact GW.none rfl rfl rfl rfl rfl | exact GW.may rfl rfl rfl rfl rfl rfl (fun hb => by (repeat (first | apply UW.yes rfl (gpf hb) | apply UW.no)); exact UW.nil (by exact AStepD.bool (AStepD.geq rfl rfl rfl) e3)) | exact GW.may2 rfl rfl rfl rfl rfl rfl (fun _ hb => by (repeat (first | apply UW.yes rfl (gpf hb) | apply UW.no)); exact UW.nil (by exact AStepD.bool (AStepD.geq rfl rfl rfl) e3)))) <| st qK730 <| st qK726 <| st (GW.p (l := [6]) qK1134) <| st (GW.p (l := [39]) qK1127) <| st (GW.p (l := [5]) qK1134) <| st (GW.p (l := [41]) qK1127) <| st (GW.p (l := [40, 42]) (by first | exact GW.yes rfl rfl rfl rfl rfl rfl rfl (by exact AStepD.bool (AStepD.geq rfl rfl rfl) e4) | exact GW.no rfl rfl rfl rfl rfl rfl rfl | exact GW.none rfl rfl rfl rfl rfl | exact GW.may rfl rfl rfl rfl rfl rfl (fun hb => by (repeat (first | apply UW.yes rfl (gpf hb) | apply UW.no)); exact UW.nil (by exact AStepD.bool (AStepD.geq rfl rfl rfl) e4)) | exact GW.may2 rfl rfl rfl rfl rfl rfl (fun _ hb => by (repeat (first | apply UW.yes rfl (gpf hb) | apply UW.no)); exact UW.nil (by exact AStepD.bool (AStepD.geq rfl rfl rfl) e4)))) <| st qK730 <| st qK725 <| nt (hK _ _ ?_)
      clear hK K
      exact AW.ret (RetQ.mk (.inr rfl) (retA_tmp rfl qK71 retA_nil) ⟨rfl, hk⟩)
end Go.Proofs.YtcomjodfkcnjhaaGreatDoor

/- Walks: nothing goes down from a state to itself; what is carried by each is carried. -/

namespace Go.Proofs.YtcomjodfkcnjhaaGreatDoor
open Go.Ax
open Cel (c)
theorem qK121 {p : Prop} (h : p := by simp only [List.flatMap_cons, List.flatMap_nil, cells_v, cells_any, cells_ptr, cells_ip, cells_sl, cells_vec, cells_map, cells_func, cells_agg, cells_iface, List.cons_append, List.nil_append, List.append_nil]; all_goals exact rfl) : p := h
set_option linter.unusedSimpArgs false
set_option linter.unusedVariables false
set_option maxRecDepth 20000
open Cel (c)

theorem carry_self (a : Stt) : carryB a a = rightB a := by
  rw [carryB]
  cases rightB a <;> simp
theorem carry_trans {a b d : Stt} (h1 : carryB a b = true) (h2 : carryB b d = true) : carryB a d = true := by
  simp only [carryB, Bool.and_eq_true, decide_eq_true_eq] at h1 h2 ⊢
  exact ⟨⟨⟨⟨⟨h1.1.1.1.1.1, h2.1.1.1.1.2⟩, h1.1.1.1.2.trans h2.1.1.1.2⟩, by omega⟩, by omega⟩, by omega⟩
theorem seq3 {a b d : List AV} (ha : a.length = 134) (hb : b.length = 134) (hd : d.length = 134) : seqEnd (fun i => some (i * 134, 134)) 0 [(0, .agg a), (1, .agg b), (2, .agg d)] = some (3 * 134) := by
  simp [seqEnd, AV.cells, ha, hb, hd]
theorem ones3 {a b d : List AV} (ha : ∀ z ∈ a, z.one = true) (hb : ∀ z ∈ b, z.one = true) (hd : ∀ z ∈ d, z.one = true) : ∀ z ∈ a ++ (b ++ d), z.one = true := by
  intro z hz
  rcases List.mem_append.1 hz with h | h
  · exact ha z h
  · exact (List.mem_append.1 h).elim (hb z) (hd z)
set_option maxHeartbeats 4000000 in
theorem carries_law (H : AHeap) (x y z : Stt) (hx : x.Ok) (hy : y.Ok) (hz : z.Ok) : ACalls Tryz.prog 5 [stA x, stA y, stA z] H (fun r _ => r = .v (.bool true)) := by
  have hcx := hx.fc (vecA x.known)
  have hcy := hy.fc (vecA y.known)
  have hcz := hz.fc (vecA z.known)
  refine ACalls.of_body tok Tryz.func5 rfl Tryz.ntmps5 (Nat.le_of_ble_eq_true rfl) (fun base => ?_)
  refine rg fun K hK => ?_
  refine st (by exact SD.s rfl rfl rfl (by exact AStepD.box (cs := x.cs (vecA x.known)) rfl rfl (x.cs_one rfl))) <| st (by exact SD.s rfl rfl rfl (by exact AStepD.box (cs := y.cs (vecA y.known)) rfl rfl (y.cs_one rfl))) <| st (by exact SD.s rfl rfl rfl (by exact AStepD.box (cs := z.cs (vecA z.known)) rfl rfl (z.cs_one rfl))) <| st qK725 <| nt (hK _ _ ?_)
  clear hK K
  refine AW.seq_k (fun K1 hK1 => ?_)
  refine rg fun K hK => ?_
  refine st (by exact SD.s rfl rfl rfl (by exact AStepD.callf rfl en8 rfl (anchor_calls _))) <| st (by exact SD.s rfl rfl rfl (by first | exact AStepD.not rfl rfl | exact AStepD.neg rfl rfl (by first | exact IntWalk.i64_in _ (by omega) | exact IntWalk.i64_in _ (by simp only [Bool.or_eq_true, Bool.and_eq_true, Bool.or_eq_false_iff, Bool.and_eq_false_iff, Bool.not_eq_true', Bool.not_eq_false', decide_eq_true_eq, decide_eq_false_iff_not, Int.not_lt, Int.not_le, beq_iff_eq] at *; omega) | exact rfl))) <| nt (hK _ _ ?_)
  clear hK K
  refine AW.cond_false rfl rfl (AW.skip ?_)
  refine hK1 _ _ ?_; try clear hK1 K1
  have g3 : (((H.new (.cells 34 (x.cs (vecA x.known)))).new (.cells 34 (y.cs (vecA y.known)))).new (.cells 34 (z.cs (vecA z.known)))).get H.next = some (.cells 34 (x.cs (vecA x.known))) := qK720
  have g4 : (((H.new (.cells 34 (x.cs (vecA x.known)))).new (.cells 34 (y.cs (vecA y.known)))).new (.cells 34 (z.cs (vecA z.known)))).get (H.next + 1) = some (.cells 34 (y.cs (vecA y.known))) := qK720
  have g5 : (((H.new (.cells 34 (x.cs (vecA x.known)))).new (.cells 34 (y.cs (vecA y.known)))).new (.cells 34 (z.cs (vecA z.known)))).get (H.next + 2) = some (.cells 34 (z.cs (vecA z.known))) := qK720
  show AW _ _ _ _ _ (((H.new (.cells 34 (x.cs (vecA x.known)))).new (.cells 34 (y.cs (vecA y.known)))).new (.cells 34 (z.cs (vecA z.known)))) _
  generalize ((H.new (.cells 34 (x.cs (vecA x.known)))).new (.cells 34 (y.cs (vecA y.known)))).new (.cells 34 (z.cs (vecA z.known))) = H1 at g3 g4 g5
  refine AW.sub (T' := [(3, .ptr H.next 0), (4, .ptr (H.next + 1) 0), (5, .ptr (H.next + 2) 0)]) qK718 ?_
  refine AW.seq_k (fun K2 hK2 => ?_)
  refine rg fun K hK => ?_
  refine st (by exact SD.s rfl rfl rfl (by exact st_load hx rfl rfl g3)) <| st (by exact SD.s rfl rfl rfl (by exact st_load hy rfl rfl g4)) <| st (by exact SD.s rfl rfl rfl (by exact st_load hz rfl rfl g5)) <| st (by exact SD.s rfl rfl rfl (by exact AStepD.vec_flat (l := ([⟨x, hx⟩, ⟨y, hy⟩, ⟨z, hz⟩] : List St)) (AStepD.buildSlice_seq tok rfl rfl rfl rfl (show _ = 134 from rfl) (map_p qK71 (map_p qK71 (map_p qK71 map_n))) rfl (by decide) (by decide) (seq3 hcx hcy hcz) qK121 (ones3 (x.cs_one rfl) (y.cs_one rfl) (z.cs_one rfl))) (by simp only [flat, List.flatMap_cons, List.flatMap_nil, List.append_nil]; rfl) rfl rfl)) <| st (by exact SD.s rfl rfl rfl (by exact AStepD.callf rfl en9 rfl (small_calls9 _ _ 3))) <| st (by exact SD.s rfl rfl rfl (by first | exact AStepD.not rfl rfl | exact AStepD.neg rfl rfl (by first | exact IntWalk.i64_in _ (by omega) | exact IntWalk.i64_in _ (by simp only [Bool.or_eq_true, Bool.and_eq_true, Bool.or_eq_false_iff, Bool.and_eq_false_iff, Bool.not_eq_true', Bool.not_eq_false', decide_eq_true_eq, decide_eq_false_iff_not, Int.not_lt, Int.not_le, beq_iff_eq] at *; omega) | exact rfl))) <| nt (hK _ _ ?_)
  clear hK K
  refine AW.cond _ rfl (fun hc => ?_) (fun hc => ?_)
  · refine rg fun K hK => ?_
    refine st qK725 <| nt (hK _ _ ?_)
    clear hK K
    exact AW.ret (RetQ.mk (.inr rfl) (retA_tmp rfl qK71 retA_nil) rfl)
  have hsm : x.known.length ≤ 40 ∧ y.known.length ≤ 40 ∧ z.known.length ≤ 40 := by
    simp [smallB] at hc
    omega
  clear hc
  refine AW.skip ?_
  refine hK2 _ _ ?_; try clear hK2 K2
  obtain ⟨p1, e1⟩ : ∃ q, decide (x.id = y.id) = q := ⟨_, rfl⟩
  obtain ⟨p2, e2⟩ : ∃ q, decide (x.cur ≤ y.cur) = q := ⟨_, rfl⟩
  obtain ⟨p3, e3⟩ : ∃ q, decide (x.vote ≤ y.vote) = q := ⟨_, rfl⟩
  obtain ⟨p4, e4⟩ : ∃ q, decide (x.cfg ≤ y.cfg) = q := ⟨_, rfl⟩
  obtain ⟨p0, e0⟩ : ∃ q, rightB x = q := ⟨_, rfl⟩
  obtain ⟨p5, e5⟩ : ∃ q, rightB y = q := ⟨_, rfl⟩
  refine AW.cut (fun T' Hq => Hq = H1 ∧ SubT T' [(7, .v (.bool (carryB x y))), (3, .ptr H.next 0), (4, .ptr (H.next + 1) 0), (5, .ptr (H.next + 2) 0)]) ?_ ?_
  · have hcb : carryB x y = (p0 && p5 && p1 && p2 && p3 && p4) := by rw [carryB, e0, e5, e1, e2, e3, e4]
    rw [hcb]
    clear hcb
    have h7 : p0 = false ∨ (p0 = true ∧ p5 = false) ∨ (p0 = true ∧ p5 = true ∧ p1 = false) ∨ (p0 = true ∧ p5 = true ∧ p1 = true ∧ p2 = false) ∨ (p0 = true ∧ p5 = true ∧ p1 = true ∧ p2 = true ∧ p3 = false) ∨ (p0 = true ∧ p5 = true ∧ p1 = true ∧ p2 = true ∧ p3 = true) := by
      cases p0 <;> cases p5 <;> cases p1 <;> cases p2 <;> cases p3 <;> simp
    rcases h7 with rfl | ⟨rfl, rfl⟩ | ⟨rfl, rfl, rfl⟩ | ⟨rfl, rfl, rfl, rfl⟩ | ⟨rfl, rfl, rfl, rfl, rfl⟩ | ⟨rfl, rfl, rfl, rfl, rfl⟩
    all_goals
      refine AW.region ?_
      refine st (by exact SD.s rfl rfl rfl (by exact st_load hx rfl rfl g3)) <| st (by exact SD.s rfl rfl rfl (by exact AStepD.callf rfl en13 rfl (made_calls _ x hx (by omega)))) <| st (by exact SD.s rfl rfl rfl (by exact AStepD.bool (AStepD.callf rfl en14 rfl (rightx_calls _ x hx)) e0)) <| st qK726 <| st (GW.p (l := [4]) (by first | exact GW.yes rfl rfl rfl rfl rfl rfl rfl (by exact st_load hy rfl rfl g4) | exact GW.no rfl rfl rfl rfl rfl rfl rfl | exact GW.none rfl rfl rfl rfl rfl | exact GW.may rfl rfl rfl rfl rfl rfl (fun hb => by (repeat (first | apply UW.yes rfl (gpf hb) | apply UW.no)); exact UW.nil (by exact st_load hy rfl rfl g4)) | exact GW.may2 rfl rfl rfl rfl rfl rfl (fun _ hb => by (repeat (first | apply UW.yes rfl (gpf hb) | apply UW.no)); exact UW.nil (by exact st_load hy rfl rfl g4)))) <| st (GW.p (l := [20]) (by first | exact GW.yes rfl rfl rfl rfl rfl rfl rfl (by exact AStepD.callf rfl en13 rfl (made_calls _ y hy (by omega))) | exact GW.no rfl rfl rfl rfl rfl rfl rfl | exact GW.none rfl rfl rfl rfl rfl | exact GW.may rfl rfl rfl rfl rfl rfl (fun hb => by (repeat (first | apply UW.yes rfl (gpf hb) | apply UW.no)); exact UW.nil (by exact AStepD.callf rfl en13 rfl (made_calls _ y hy (by omega)))) | exact GW.may2 rfl rfl rfl rfl rfl rfl (fun _ hb => by (repeat (first | apply UW.yes rfl (gpf hb) | apply UW.no)); exact UW.nil (by exact AStepD.callf rfl en13 rfl (made_calls _ y hy (by omega)))))) <| st (GW.p (l := [21]) (by first | exact GW.yes rfl rfl rfl rfl rfl rfl rfl (by exact AStepD.bool (AStepD.callf rfl en14 rfl (rightx_calls _ y hy)) e5) | exact GW.no rfl rfl rfl rfl rfl rfl rfl | exact GW.none rfl rfl rfl rfl rfl | exact GW.may rfl rfl rfl rfl rfl rfl (fun hb => by (repeat (first | apply UW.yes rfl (gpf hb) | apply UW.no)); exact UW.nil (by exact AStepD.bool (AStepD.callf rfl en14 rfl (rightx_calls _ y hy)) e5)) | exact GW.may2 rfl rfl rfl rfl rfl rfl (fun _ hb => by (repeat (first | apply UW.yes rfl (gpf hb) | apply UW.no)); exact UW.nil (by exact AStepD.bool (AStepD.callf rfl en14 rfl (rightx_calls _ y hy)) e5)))) <| st qK730 <| st qK726 <| st (GW.p (l := [3]) qK1132) <| st (GW.p (l := [25]) qK1127) <| st (GW.p (l := [4]) qK1132) <| st (GW.p (l := [27]) qK1127) <| st (GW.p (l := [26, 28]) (by first | exact GW.yes rfl rfl rfl rfl rfl rfl rfl (by exact AStepD.bool (AStepD.eql rfl rfl rfl) e1) | exact GW.no rfl rfl rfl rfl rfl rfl rfl | exact GW.none rfl rfl rfl rfl rfl | exact GW.may rfl rfl rfl rfl rfl rfl (fun hb => by (repeat (first | apply UW.yes rfl (gpf hb) | apply UW.no)); exact UW.nil (by exact AStepD.bool (AStepD.eql rfl rfl rfl) e1)) | exact GW.may2 rfl rfl rfl rfl rfl rfl (fun _ hb => by (repeat (first | apply UW.yes rfl (gpf hb) | apply UW.no)); exact UW.nil (by exact AStepD.bool (AStepD.eql rfl rfl rfl) e1)))) <| st qK730 <| st qK726 <| st (GW.p (l := [3]) qK1134) <| st (GW.p (l := [32]) qK1132) <| st (GW.p (l := [33]) qK1127) <| st (GW.p (l := [4]) qK1134) <| st (GW.p (l := [35]) qK1132) <| st (GW.p (l := [36]) qK1127) <| st (GW.p (l := [34, 37]) (by first | exact GW.yes rfl rfl rfl rfl rfl rfl rfl (by exact AStepD.bool (AStepD.leq rfl rfl rfl) e2) | exact GW.no rfl rfl rfl rfl rfl rfl rfl | exact GW.none rfl rfl rfl rfl rfl | exact GW.may rfl rfl rfl rfl rfl rfl (fun hb => by (repeat (first | apply UW.yes rfl (gpf hb) | apply UW.no)); exact UW.nil (by exact AStepD.bool (AStepD.leq rfl rfl rfl) e2)) | exact GW.may2 rfl rfl rfl rfl rfl rfl (fun _ hb => by (repeat (first | apply UW.yes rfl (gpf hb) | apply UW.no)); exact UW.nil (by exact AStepD.bool (AStepD.leq rfl rfl rfl) e2)))) <| st qK730 <| st qK726 <| st (GW.p (l := [3]) qK1134) <| st (GW.p (l := [41]) qK1133) <| st (GW.p (l := [42]) qK1127) <| st (GW.p (l := [4]) qK1134) <| st (GW.p (l := [44]) qK1133) <| st (GW.p (l := [45]) qK1127) <| st (GW.p (l := [43, 46]) (by first | exact GW.yes rfl rfl rfl rfl rfl rfl rfl (by exact AStepD.bool (AStepD.leq rfl rfl rfl) e3) | exact GW.no rfl rfl rfl rfl rfl rfl rfl | exact GW.none rfl rfl rfl rfl rfl | exact GW.may rfl rfl rfl rfl rfl rfl (fun hb => by (repeat (first | apply UW.yes rfl (gpf hb) | apply UW.no)); exact UW.nil (by exact AStepD.bool (AStepD.leq rfl rfl rfl) e3)) | exact GW.may2 rfl rfl rfl rfl rfl rfl (fun _ hb => by (repeat (first | apply UW.yes rfl (gpf hb) | apply UW.no)); exact UW.nil (by exact AStepD.bool (AStepD.leq rfl rfl rfl) e3)))) <| st qK730 <| st qK726 <| st (GW.p (l := [3]) qK1134) <| st (GW.p (l := [50]) qK1134) <| st (GW.p (l := [51]) qK1127) <| st (GW.p (l := [4]) qK1134) <| st (GW.p (l := [53]) qK1134) <| st (GW.p (l := [54]) qK1127) <| st (GW.p (l := [52, 55]) (by first | exact GW.yes rfl rfl rfl rfl rfl rfl rfl (by exact AStepD.bool (AStepD.leq rfl rfl rfl) e4) | exact GW.no rfl rfl rfl rfl rfl rfl rfl | exact GW.none rfl rfl rfl rfl rfl | exact GW.may rfl rfl rfl rfl rfl rfl (fun hb => by (repeat (first | apply UW.yes rfl (gpf hb) | apply UW.no)); exact UW.nil (by exact AStepD.bool (AStepD.leq rfl rfl rfl) e4)) | exact GW.may2 rfl rfl rfl rfl rfl rfl (fun _ hb => by (repeat (first | apply UW.yes rfl (gpf hb) | apply UW.no)); exact UW.nil (by exact AStepD.bool (AStepD.leq rfl rfl rfl) e4)))) <| st qK730 <| st qK725 <| AL.nil ?_
      exact ⟨rfl, qK718⟩
  rintro T' H2 ⟨rfl, hs⟩
  refine AW.sub hs ?_
  clear hs e0 e1 e2 e3 e4 e5
  refine AW.seq_k (fun K3 hK3 => ?_)
  refine AW.seq_k (fun K hK => ?_)
  apply AW.draw mixed [_, _, _, _, _, _, _, _, _, _, _, _, _, _] [] [_] [(0, 0), (1, 0), (2, 0), (3, 0), (4, 0), (5, 0), (6, 0), (7, 0), (8, 0), (9, 0), (10, 0), (11, 0), (12, 0), (13, 0)] rfl rfl rfl (by simp only [List.getD_cons_zero, List.getD_cons_succ]; all_goals apply Eq.refl)
  · refine ⟨?_, ?_, ?_, ?_, ?_, ?_, ?_, ?_, ?_, ?_, ?_, ?_, ?_, ?_⟩
    · refine Ob.mk _ [3] 0 rfl rfl (restr_cons qK71 restr_nil) rfl ?_
      simp only [List.getD_cons_zero, List.getD_cons_succ]
      exact GStep.plain rfl (by exact st_load hx rfl rfl g3)
    · refine Ob.mk _ [4] 0 rfl rfl (restr_cons qK71 restr_nil) rfl ?_
      simp only [List.getD_cons_zero, List.getD_cons_succ]
      exact GStep.plain rfl (by exact st_load hy rfl rfl g4)
    · refine Ob.mk _ [58, 59] 0 rfl rfl (restr_cons qK71 (restr_cons qK71 restr_nil)) rfl ?_
      simp only [List.getD_cons_zero, List.getD_cons_succ]
      exact GStep.plain rfl (by exact AStepD.callf rfl en19 rfl (carry_calls _ x y hx hy))
    · refine Ob.mk _ [7] 0 rfl rfl (restr_cons qK71 restr_nil) rfl ?_
      simp only [List.getD_cons_zero, List.getD_cons_succ]
      exact GStep.plain rfl qK717
    · refine Ob.mk _ [60, 61] 0 rfl rfl (restr_cons qK71 (restr_cons qK71 restr_nil)) rfl ?_
      simp only [List.getD_cons_zero, List.getD_cons_succ]
      exact GStep.plain rfl (by exact AStepD.bool ((AStepD.bool_eq tok rfl rfl rfl rfl).2 rfl) (c := false) (by simp))
    · refine Ob.mk _ [62] 0 rfl rfl (restr_cons qK71 restr_nil) rfl ?_
      simp only [List.getD_cons_zero, List.getD_cons_succ]
      exact GStep.plain rfl qK717
    · refine Ob.mk _ [3, 63] 0 rfl rfl (restr_cons qK71 (restr_cons qK71 restr_nil)) rfl ?_
      simp only [List.getD_cons_zero, List.getD_cons_succ]
      first | exact GStep.yes rfl rfl rfl rfl rfl (by exact st_load hx rfl rfl g3) | exact GStep.no rfl rfl rfl rfl rfl | exact GStep.none rfl rfl rfl | exact GStep.may rfl rfl rfl rfl (fun hb => by (try (apply AStepD.uncond 3 rfl (gpf hb))); exact (by exact st_load hx rfl rfl g3)) | exact GStep.may2 rfl rfl rfl rfl (fun _ hb => by (try (apply AStepD.uncond 3 rfl (gpf hb))); exact (by exact st_load hx rfl rfl g3))
    · refine Ob.mk _ [3, 63] 0 rfl rfl (restr_cons qK71 (restr_cons qK71 restr_nil)) rfl ?_
      simp only [List.getD_cons_zero, List.getD_cons_succ]
      first | exact GStep.yes rfl rfl rfl rfl rfl (by exact st_load hx rfl rfl g3) | exact GStep.no rfl rfl rfl rfl rfl | exact GStep.none rfl rfl rfl | exact GStep.may rfl rfl rfl rfl (fun hb => by (try (apply AStepD.uncond 3 rfl (gpf hb))); exact (by exact st_load hx rfl rfl g3)) | exact GStep.may2 rfl rfl rfl rfl (fun _ hb => by (try (apply AStepD.uncond 3 rfl (gpf hb))); exact (by exact st_load hx rfl rfl g3))
    · refine Ob.mk _ [64, 65, 63] 0 rfl rfl (restr_cons qK71 (restr_cons qK71 (restr_cons qK71 restr_nil))) rfl ?_
      simp only [List.getD_cons_zero, List.getD_cons_succ]
      first | exact GStep.yes rfl rfl rfl rfl rfl (by exact AStepD.bool (AStepD.callf rfl en19 rfl (carry_calls _ x x hx hx)) (carry_self x)) | exact GStep.no rfl rfl rfl rfl rfl | exact GStep.none rfl rfl rfl | exact GStep.may rfl rfl rfl rfl (fun hb => by (try (apply AStepD.uncond 64 rfl (gpf hb))); (try (apply AStepD.uncond 65 rfl (gpf hb))); exact (by exact AStepD.bool (AStepD.callf rfl en19 rfl (carry_calls _ x x hx hx)) (carry_self x))) | exact GStep.may2 rfl rfl rfl rfl (fun _ hb => by (try (apply AStepD.uncond 64 rfl (gpf hb))); (try (apply AStepD.uncond 65 rfl (gpf hb))); exact (by exact AStepD.bool (AStepD.callf rfl en19 rfl (carry_calls _ x x hx hx)) (carry_self x)))
    · refine Ob.mk _ [3, 63] 0 rfl rfl (restr_cons qK71 (restr_cons qK71 restr_nil)) rfl ?_
      simp only [List.getD_cons_zero, List.getD_cons_succ]
      first | exact GStep.yes rfl rfl rfl rfl rfl (by exact st_load hx rfl rfl g3) | exact GStep.no rfl rfl rfl rfl rfl | exact GStep.none rfl rfl rfl | exact GStep.may rfl rfl rfl rfl (fun hb => by (try (apply AStepD.uncond 3 rfl (gpf hb))); exact (by exact st_load hx rfl rfl g3)) | exact GStep.may2 rfl rfl rfl rfl (fun _ hb => by (try (apply AStepD.uncond 3 rfl (gpf hb))); exact (by exact st_load hx rfl rfl g3))
    · refine Ob.mk _ [67, 63] 0 rfl rfl (restr_cons qK71 (restr_cons qK71 restr_nil)) rfl ?_
      simp only [List.getD_cons_zero, List.getD_cons_succ]
      first | exact GStep.yes rfl rfl rfl rfl rfl (by exact AStepD.callf rfl en13 rfl (made_calls _ x hx (by omega))) | exact GStep.no rfl rfl rfl rfl rfl | exact GStep.none rfl rfl rfl | exact GStep.may rfl rfl rfl rfl (fun hb => by (try (apply AStepD.uncond 67 rfl (gpf hb))); exact (by exact AStepD.callf rfl en13 rfl (made_calls _ x hx (by omega)))) | exact GStep.may2 rfl rfl rfl rfl (fun _ hb => by (try (apply AStepD.uncond 67 rfl (gpf hb))); exact (by exact AStepD.callf rfl en13 rfl (made_calls _ x hx (by omega))))
    · refine Ob.mk _ [68, 63] 0 rfl rfl (restr_cons qK71 (restr_cons qK71 restr_nil)) rfl ?_
      simp only [List.getD_cons_zero, List.getD_cons_succ]
      first | exact GStep.yes rfl rfl rfl rfl rfl (by exact AStepD.callf rfl en14 rfl (rightx_calls _ x hx)) | exact GStep.no rfl rfl rfl rfl rfl | exact GStep.none rfl rfl rfl | exact GStep.may rfl rfl rfl rfl (fun hb => by (try (apply AStepD.uncond 68 rfl (gpf hb))); exact (by exact AStepD.callf rfl en14 rfl (rightx_calls _ x hx))) | exact GStep.may2 rfl rfl rfl rfl (fun _ hb => by (try (apply AStepD.uncond 68 rfl (gpf hb))); exact (by exact AStepD.callf rfl en14 rfl (rightx_calls _ x hx)))
    · refine Ob.mk _ [66, 69, 63] 0 rfl rfl (restr_cons qK71 (restr_cons qK71 (restr_cons qK71 restr_nil))) rfl ?_
      simp only [List.getD_cons_zero, List.getD_cons_succ]
      first | exact GStep.yes rfl rfl rfl rfl rfl (by exact AStepD.bool ((AStepD.bool_eq tok rfl rfl rfl rfl).2 rfl) (c := false) (by simp)) | exact GStep.no rfl rfl rfl rfl rfl | exact GStep.none rfl rfl rfl | exact GStep.may rfl rfl rfl rfl (fun hb => by (try (apply AStepD.uncond 66 rfl (gpf hb))); (try (apply AStepD.uncond 69 rfl (gpf hb))); exact (by exact AStepD.bool ((AStepD.bool_eq tok rfl rfl rfl rfl).2 rfl) (c := false) (by simp))) | exact GStep.may2 rfl rfl rfl rfl (fun _ hb => by (try (apply AStepD.uncond 66 rfl (gpf hb))); (try (apply AStepD.uncond 69 rfl (gpf hb))); exact (by exact AStepD.bool ((AStepD.bool_eq tok rfl rfl rfl rfl).2 rfl) (c := false) (by simp)))
    · refine Ob.mk _ [63, 70] 0 rfl rfl (restr_cons qK71 (restr_cons qK71 restr_nil)) rfl ?_
      simp only [List.getD_cons_zero, List.getD_cons_succ]
      exact GStep.plain rfl qK724
  refine hK _ _ ?_; clear hK K
  refine AW.frame (by simp only [frameAt, putA]; all_goals exact rfl) (by simp only [List.length_cons, List.length_nil, Nat.zero_add, Nat.reduceAdd, List.getD_cons_zero, List.getD_cons_succ]; all_goals apply Eq.refl) ?_
  refine AW.cond_false rfl rfl (AW.skip ?_)
  refine hK3 _ _ ?_; try clear hK3 K3
  have htr := fun h1 h2 => carry_trans (a := x) (b := y) (d := z) h1 h2
  obtain ⟨p1, e1⟩ : ∃ q, carryB x y = q := ⟨_, rfl⟩
  obtain ⟨p2, e2⟩ : ∃ q, carryB y z = q := ⟨_, rfl⟩
  obtain ⟨p3, e3⟩ : ∃ q, carryB x z = q := ⟨_, rfl⟩
  rw [e1, e2, e3] at htr
  have h4 : p1 = false ∨ (p1 = true ∧ p2 = false) ∨ (p1 = true ∧ p2 = true ∧ p3 = true) := by
    cases p1 <;> cases p2 <;> cases p3 <;> simp at htr ⊢
  rw [e1]
  rcases h4 with rfl | ⟨rfl, rfl⟩ | ⟨rfl, rfl, rfl⟩
  all_goals
    refine rg fun K hK => ?_
    refine st (by exact SD.s rfl rfl rfl (by exact st_load hx rfl rfl g3)) <| st (by exact SD.s rfl rfl rfl (by exact st_load hy rfl rfl g4)) <| st (by exact SD.s rfl rfl rfl (by exact AStepD.bool (AStepD.callf rfl en19 rfl (carry_calls _ x y hx hy)) e1)) <| st (by exact SD.s rfl rfl rfl (by first | exact AStepD.not rfl rfl | exact AStepD.neg rfl rfl (by first | exact IntWalk.i64_in _ (by omega) | exact IntWalk.i64_in _ (by simp only [Bool.or_eq_true, Bool.and_eq_true, Bool.or_eq_false_iff, Bool.and_eq_false_iff, Bool.not_eq_true', Bool.not_eq_false', decide_eq_true_eq, decide_eq_false_iff_not, Int.not_lt, Int.not_le, beq_iff_eq] at *; omega) | exact rfl))) <| st qK726 <| st (GW.p (l := [4]) (by first | exact GW.yes rfl rfl rfl rfl rfl rfl rfl (by exact st_load hy rfl rfl g4) | exact GW.no rfl rfl rfl rfl rfl rfl rfl | exact GW.none rfl rfl rfl rfl rfl | exact GW.may rfl rfl rfl rfl rfl rfl (fun hb => by (repeat (first | apply UW.yes rfl (gpf hb) | apply UW.no)); exact UW.nil (by exact st_load hy rfl rfl g4)) | exact GW.may2 rfl rfl rfl rfl rfl rfl (fun _ hb => by (repeat (first | apply UW.yes rfl (gpf hb) | apply UW.no)); exact UW.nil (by exact st_load hy rfl rfl g4)))) <| st (GW.p (l := [5]) (by first | exact GW.yes rfl rfl rfl rfl rfl rfl rfl (by exact st_load hz rfl rfl g5) | exact GW.no rfl rfl rfl rfl rfl rfl rfl | exact GW.none rfl rfl rfl rfl rfl | exact GW.may rfl rfl rfl rfl rfl rfl (fun hb => by (repeat (first | apply UW.yes rfl (gpf hb) | apply UW.no)); exact UW.nil (by exact st_load hz rfl rfl g5)) | exact GW.may2 rfl rfl rfl rfl rfl rfl (fun _ hb => by (repeat (first | apply UW.yes rfl (gpf hb) | apply UW.no)); exact UW.nil (by exact st_load hz rfl rfl g5)))) <| st (GW.p (l := [77, 78]) (by first | exact GW.yes rfl rfl rfl rfl rfl rfl rfl (by exact AStepD.bool (AStepD.callf rfl en19 rfl (carry_calls _ y z hy hz)) e2) | exact GW.no rfl rfl rfl rfl rfl rfl rfl | exact GW.none rfl rfl rfl rfl rfl | exact GW.may rfl rfl rfl rfl rfl rfl (fun hb => by (repeat (first | apply UW.yes rfl (gpf hb) | apply UW.no)); exact UW.nil (by exact AStepD.bool (AStepD.callf rfl en19 rfl (carry_calls _ y z hy hz)) e2)) | exact GW.may2 rfl rfl rfl rfl rfl rfl (fun _ hb => by (repeat (first | apply UW.yes rfl (gpf hb) | apply UW.no)); exact UW.nil (by exact AStepD.bool (AStepD.callf rfl en19 rfl (carry_calls _ y z hy hz)) e2)))) <| st (GW.p (l := [79]) (by first | exact GW.yes rfl rfl rfl rfl rfl rfl rfl (by first | exact AStepD.not rfl rfl | exact AStepD.neg rfl rfl (by first | exact IntWalk.i64_in _ (by omega) | exact IntWalk.i64_in _ (by simp only [Bool.or_eq_true, Bool.and_eq_true, Bool.or_eq_false_iff, Bool.and_eq_false_iff, Bool.not_eq_true', Bool.not_eq_false', decide_eq_true_eq, decide_eq_false_iff_not, Int.not_lt, Int.not_le, beq_iff_eq] at *; omega) | exact rfl)) | exact GW.no rfl rfl rfl rfl rfl rfl rfl | exact GW.none rfl rfl rfl rfl rfl | exact GW.may rfl rfl rfl rfl rfl rfl (fun hb => by (repeat (first | apply UW.yes rfl (gpf hb) | apply UW.no)); exact UW.nil (by first | exact AStepD.not rfl rfl | exact AStepD.neg rfl rfl (by first | exact IntWalk.i64_in _ (by omega) | exact IntWalk.i64_in _ (by simp only [Bool.or_eq_true, Bool.and_eq_true, Bool.or_eq_false_iff, Bool.and_eq_false_iff, Bool.not_eq_true', Bool.not_eq_false', decide_eq_true_eq, decide_eq_false_iff_not, Int.not_lt, Int.not_le, beq_iff_eq] at *; omega) | exact rfl))) | exact GW.may2 rfl rfl rfl rfl rfl rfl (fun _ hb => by (repeat (first | apply UW.yes rfl (gpf hb) | apply UW.no)); exact UW.nil (by first | exact AStepD.not rfl rfl | exact AStepD.neg rfl rfl (by first | exact IntWalk.i64_in _ (by omega) | exact IntWalk.i64_in _ (by simp only [Bool.or_eq_true, Bool.and_eq_true, Bool.or_eq_false_iff, Bool.and_eq_false_iff, Bool.not_eq_true', Bool.not_eq_false', decide_eq_true_eq, decide_eq_false_iff_not, Int.not_lt, Int.not_le, beq_iff_eq] at *; omega) | exact rfl))))) <| st qK730 <| st qK726 <| st (GW.p (l := [3]) (by first | exact GW.yes rfl rfl rfl rfl rfl rfl rfl (by exact st_load hx rfl rfl g3) | exact GW.no rfl rfl rfl rfl rfl rfl rfl | exact GW.none rfl rfl rfl rfl rfl | exact GW.may rfl rfl rfl rfl rfl rfl (fun hb => by (repeat (first | apply UW.yes rfl (gpf hb) | apply UW.no)); exact UW.nil (by exact st_load hx rfl rfl g3)) | exact GW.may2 rfl rfl rfl rfl rfl rfl (fun _ hb => by (repeat (first | apply UW.yes rfl (gpf hb) | apply UW.no)); exact UW.nil (by exact st_load hx rfl rfl g3)))) <| st (GW.p (l := [5]) (by first | exact GW.yes rfl rfl rfl rfl rfl rfl rfl (by exact st_load hz rfl rfl g5) | exact GW.no rfl rfl rfl rfl rfl rfl rfl | exact GW.none rfl rfl rfl rfl rfl | exact GW.may rfl rfl rfl rfl rfl rfl (fun hb => by (repeat (first | apply UW.yes rfl (gpf hb) | apply UW.no)); exact UW.nil (by exact st_load hz rfl rfl g5)) | exact GW.may2 rfl rfl rfl rfl rfl rfl (fun _ hb => by (repeat (first | apply UW.yes rfl (gpf hb) | apply UW.no)); exact UW.nil (by exact st_load hz rfl rfl g5)))) <| st (GW.p (l := [83, 84]) (by first | exact GW.yes rfl rfl rfl rfl rfl rfl rfl (by exact AStepD.bool (AStepD.callf rfl en19 rfl (carry_calls _ x z hx hz)) e3) | exact GW.no rfl rfl rfl rfl rfl rfl rfl | exact GW.none rfl rfl rfl rfl rfl | exact GW.may rfl rfl rfl rfl rfl rfl (fun hb => by (repeat (first | apply UW.yes rfl (gpf hb) | apply UW.no)); exact UW.nil (by exact AStepD.bool (AStepD.callf rfl en19 rfl (carry_calls _ x z hx hz)) e3)) | exact GW.may2 rfl rfl rfl rfl rfl rfl (fun _ hb => by (repeat (first | apply UW.yes rfl (gpf hb) | apply UW.no)); exact UW.nil (by exact AStepD.bool (AStepD.callf rfl en19 rfl (carry_calls _ x z hx hz)) e3)))) <| st qK730 <| st qK725 <| nt (hK _ _ ?_)
    clear hK K
    exact AW.ret (RetQ.mk (.inr rfl) (retA_tmp rfl qK71 retA_nil) rfl)
end Go.Proofs.YtcomjodfkcnjhaaGreatDoor
