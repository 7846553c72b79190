/- The reference's Right. -/
import Derived.Test.YtcomjodfkcnjhaaGreatDoorCP2
set_option linter.unusedSimpArgs false
set_option linter.unusedVariables false
namespace Go.Proofs.YtcomjodfkcnjhaaGreatDoor
open Go.Ax
open Cel (c)
theorem qX11 {p : Prop} (h : p := by (conv => lhs; whnf); all_goals exact rfl) : p := h
theorem qX12 {p : Prop} (h : p := by exact AStepD.geq rfl rfl rfl) : p := h
theorem qX13 {p : Prop} (h : p := by exact AStepD.leq rfl rfl rfl) : p := h
theorem qX14 {p : Prop} (h : p := by intro h; first | (rw [h]; done) | (rw [h]; rfl) | (simp [h]; done) | (simp_all; done) | exact guard_true h) : p := h
theorem qX15 {p : Prop} (h : p := by (conv => lhs; whnf); all_goals first | exact rfl | (simp; done) | (simp; omega)) : p := h
theorem qX16 {p : Prop} (h : p := by first | omega | (simp only [za, zb, zc, zd]; omega)) : p := h
theorem qX17 {p : Prop} (h : p := by repeat' (first | exact Keep.refl _ | apply Keep.new | apply Keep.set | apply Keep.del | (first | omega | (simp only [za, zb, zc]; omega)))) : p := h
theorem qX18 {p : Prop} (h : p := by simp only [Nat.reduceAdd]; exact rfl) : p := h
theorem qX19 {p : Prop} (h : p := by first | with_reducible assumption | exact rfl) : p := h
theorem qX110 {p : Prop} (h : p := by first | exact IsSl.vec | exact IsSl.sl | exact IsSl.slc | exact IsSl.nil | with_reducible assumption) : p := h
theorem qX111 {p : Prop} (h : p := by exact AStepD.lss rfl rfl rfl) : p := h
theorem qX112 {p : Prop} (h : p := by first | exact rfl | exact (Int.toNat_of_nonneg (by omega)).symm) : p := h
theorem qX113 {p : Prop} (h : p := by first | omega | (simp; done) | (simp; omega) | (simp only [over, List.length_append, List.length_take, List.length_drop, *]; omega) | (simp_all; done) | (simp_all; omega)) : p := h
theorem qX114 {p : Prop} (h : p := by first | (simp only [Nat.zero_add, Nat.zero_mul, Nat.sub_zero, Nat.add_zero]; exact rfl) | exact rfl) : p := h
theorem qX115 {p : Prop} (h : p := by first | exact AStepD.eql rfl rfl rfl | exact AStepD.str_eql rfl rfl rfl | exact (AStepD.ptr_nil tok (.inl ⟨_, _, rfl⟩) rfl rfl rfl).1 rfl | exact (AStepD.nil_nil tok rfl rfl rfl rfl).1 rfl | exact (AStepD.bool_eq tok rfl rfl rfl rfl).1 rfl | exact (AStepD.ptr_same tok rfl rfl rfl rfl rfl).1 rfl | exact (AStepD.iface_nil tok rfl rfl rfl rfl).1 rfl | exact (AStepD.nilIface_nil tok rfl rfl rfl rfl).1 rfl) : p := h
theorem qX116 {p : Prop} (h : p := by first | exact AStepD.neq rfl rfl rfl | exact AStepD.str_neq rfl rfl rfl | exact (AStepD.ptr_nil tok (.inl ⟨_, _, rfl⟩) rfl rfl rfl).2 rfl | exact (AStepD.nil_nil tok rfl rfl rfl rfl).2 rfl | exact (AStepD.bool_eq tok rfl rfl rfl rfl).2 rfl | exact (AStepD.ptr_same tok rfl rfl rfl rfl rfl).2 rfl | exact (AStepD.iface_nil tok rfl rfl rfl rfl).2 rfl | exact (AStepD.nilIface_nil tok rfl rfl rfl rfl).2 rfl) : p := h
theorem qX117 {p : Prop} (h : p := by exact AStepD.gtr rfl rfl rfl) : p := h
theorem qX118 {p : Prop} (h : p := by (try simp only [za, zb, zc, zd, ne_eq]); omega) : p := h
theorem qX119 {p : Prop} (h : p := by first | exact Nat.le_of_ble_eq_true rfl | (simp; done) | (simp; omega) | (simp_all; omega)) : p := h
theorem qX120 {p : Prop} (h : p := by first | with_reducible assumption | (simp only [List.take_succ_cons, List.take_zero, List.drop_succ_cons, List.drop_zero]; exact rfl) | exact rfl) : p := h
theorem qX121 {p : Prop} (h : p := by first | with_reducible assumption | exact Cel.one _ | exact flat_ones _ | exact ones_nil | (simp only [List.forall_mem_cons, List.not_mem_nil, false_implies, implies_true, and_true, one_v, one_ptr, one_ip, one_sl, one_slc, one_vec, one_map, one_func, one_iface, Value.oneCell', *]; done) | (simp [AV.one, Value.oneCell', *]; done)) : p := h
theorem qX122 {p : Prop} (h : p := by first | ((with_reducible refine over_all ?_); exact rfl) | (simp only [over, List.take_succ_cons, List.take_zero, List.drop_succ_cons, List.drop_zero, List.length_cons, List.length_nil, List.nil_append, List.cons_append, Nat.reduceAdd, Nat.zero_add, List.drop_nil, List.append_nil]; exact rfl) | conv => lhs; whnf) : p := h
theorem qX123 {p : Prop} (h : p := by repeat' (first | exact Keep.refl _ | with_reducible assumption | apply Keep.new | apply Keep.set | apply Keep.del | (first | omega | (simp only [za, zb, zc]; omega)))) : p := h
theorem qX124 {p : Prop} (h : p := by simp only [List.getD_cons_zero, List.getD_cons_succ]; all_goals apply Eq.refl) : p := h
theorem qX125 {p : Prop} (h : p := by simp only [frameAt, putA]; all_goals exact rfl) : p := h
theorem qX126 {p : Prop} (h : p := by simp only [List.length_cons, List.length_nil, Nat.zero_add, Nat.reduceAdd, List.getD_cons_zero, List.getD_cons_succ]; all_goals apply Eq.refl) : p := h
theorem qX127 {p : Prop} (h : p := by rw [List.drop_zero]; exact List.take_of_length_le (by omega)) : p := h
theorem qX128 {p : Prop} (h : p := by exact AStepD.assign' rfl qX11) : p := h
theorem qX129 {p : Prop} (h : p := by exact AStepD.move' rfl qX11) : p := h
theorem qX130 {p : Prop} (h : p := by exact SD.s rfl rfl rfl qX12) : p := h
theorem qX131 {p : Prop} (h : p := by exact (fun hb => by (repeat (first | apply UW.yes rfl (gpf hb) | apply UW.no)); exact UW.nil qX13)) : p := h
theorem qX132 {p : Prop} (h : p := by exact (fun _ hb => by (repeat (first | apply UW.yes rfl (gpf hb) | apply UW.no)); exact UW.nil qX13)) : p := h
theorem qX133 {p : Prop} (h : p := by first | exact AStepD.pick_true' rfl rfl qX11 | exact AStepD.pick_false' rfl rfl qX11 | exact AStepD.and rfl _ _ _ rfl rfl qX14 rfl | exact AStepD.and' rfl _ _ rfl rfl rfl | exact AStepD.or rfl _ _ _ rfl rfl rfl qX14 | exact AStepD.or' rfl _ _ rfl rfl rfl) : p := h
theorem qX134 {p : Prop} (h : p := by repeat' (first | exact SubT.nil _ | refine SubT.cons_eq qX15 ?_)) : p := h
theorem qX135 {p : Prop} (h : p := by first | with_reducible assumption | (simp (disch := (first | omega | (exact Lst.lab_ne (by with_reducible assumption) qX16) | (exact Lst.lab_new (by with_reducible assumption) qX16) | (refine id ?_; simp only [za, zb, zc, zd]; done) | (simp only [za, zb, zc, zd]; omega))) only [z1, z2, z3, z4, z5, z6, z7, z8, z9, ne_eq, *]; done) | (simp (disch := (first | omega | (exact Lst.lab_ne (by with_reducible assumption) qX16) | (exact Lst.lab_new (by with_reducible assumption) qX16) | (refine id ?_; simp only [za, zb, zc, zd]; done) | (simp only [za, zb, zc, zd]; omega))) only [z1, z2, z3, z4, z5, z6, z7, z8, z9, ne_eq, *]; exact rfl)) : p := h
theorem qX136 {p : Prop} (h : p := by first | exact Nat.zero_add 5 | exact (show _ + 5 = _ from qX18) | exact (show _ + 5 = _ + 5 from rfl) | exact rfl) : p := h
theorem qX137 {p : Prop} (h : p := by first | exact AStepD.len_str tok rfl rfl rfl rfl | exact AStepD.len_sl tok rfl qX11 qX110 rfl rfl | exact AStepD.len_arr tok rfl rfl rfl) : p := h
theorem qX138 {p : Prop} (h : p := by exact SD.s rfl rfl rfl qX111) : p := h
theorem qX139 {p : Prop} (h : p := by first | exact AStepD.indexAddr_flat tok rfl rfl rfl rfl rfl rfl rfl (show _ = 3 from rfl) rfl qX112 qX113 | exact AStepD.indexAddr_vec' tok rfl rfl rfl rfl rfl rfl (show _ = 3 from rfl) qX112 qX113 | exact AStepD.indexAddr_sl' tok rfl rfl rfl rfl rfl rfl (show _ = 3 from rfl) qX112 qX113 qX114 | exact AStepD.indexAddr_arr' tok rfl rfl rfl rfl rfl rfl (show _ = 3 from rfl) qX112 qX113 qX114) : p := h
theorem qX140 {p : Prop} (h : p := by first | exact Nat.zero_add 0 | exact (show _ + 0 = _ from qX18) | exact (show _ + 0 = _ + 0 from rfl) | exact rfl) : p := h
theorem qX141 {p : Prop} (h : p := by exact SD.s rfl rfl rfl qX115) : p := h
theorem qX142 {p : Prop} (h : p := by first | exact Nat.zero_add 1 | exact (show _ + 1 = _ from qX18) | exact (show _ + 1 = _ + 1 from rfl) | exact rfl) : p := h
theorem qX143 {p : Prop} (h : p := by exact (fun hb => by (repeat (first | apply UW.yes rfl (gpf hb) | apply UW.no)); exact UW.nil qX116)) : p := h
theorem qX144 {p : Prop} (h : p := by exact (fun _ hb => by (repeat (first | apply UW.yes rfl (gpf hb) | apply UW.no)); exact UW.nil qX116)) : p := h
theorem qX145 {p : Prop} (h : p := by exact (fun hb => by (repeat (first | apply UW.yes rfl (gpf hb) | apply UW.no)); exact UW.nil qX115)) : p := h
theorem qX146 {p : Prop} (h : p := by exact (fun _ hb => by (repeat (first | apply UW.yes rfl (gpf hb) | apply UW.no)); exact UW.nil qX115)) : p := h
theorem qX147 {p : Prop} (h : p := by exact (fun hb => by (repeat (first | apply UW.yes rfl (gpf hb) | apply UW.no)); exact UW.nil qX117)) : p := h
theorem qX148 {p : Prop} (h : p := by exact (fun _ hb => by (repeat (first | apply UW.yes rfl (gpf hb) | apply UW.no)); exact UW.nil qX117)) : p := h
theorem qX149 {p : Prop} (h : p := by first | exact Nat.zero_add 2 | exact (show _ + 2 = _ from qX18) | exact (show _ + 2 = _ + 2 from rfl) | exact rfl) : p := h
theorem qX150 {p : Prop} (h : p := by first | exact Nat.zero_add 3 | exact (show _ + 3 = _ from qX18) | exact (show _ + 3 = _ + 3 from rfl) | exact rfl) : p := h
theorem qX151 {p : Prop} (h : p := by exact (fun hb => by (repeat (first | apply UW.yes rfl (gpf hb) | apply UW.no)); exact UW.nil qX111)) : p := h
theorem qX152 {p : Prop} (h : p := by exact (fun _ hb => by (repeat (first | apply UW.yes rfl (gpf hb) | apply UW.no)); exact UW.nil qX111)) : p := h
theorem qX153 {p : Prop} (h : p := by first | exact Nat.zero_add 4 | exact (show _ + 4 = _ from qX18) | exact (show _ + 4 = _ + 4 from rfl) | exact rfl) : p := h
theorem qX154 {p : Prop} (h : p := by exact (fun hb => by (try (apply AStepD.uncond 118 rfl (gpf hb))); (try (apply AStepD.uncond 120 rfl (gpf hb))); exact qX12)) : p := h
theorem qX155 {p : Prop} (h : p := by exact (fun _ hb => by (try (apply AStepD.uncond 118 rfl (gpf hb))); (try (apply AStepD.uncond 120 rfl (gpf hb))); exact qX12)) : p := h
theorem qX156 {p : Prop} (h : p := by first | exact Nat.zero_add 6 | exact (show _ + 6 = _ from qX18) | exact (show _ + 6 = _ + 6 from rfl) | exact rfl) : p := h
theorem qX157 {p : Prop} (h : p := by first | exact AStepD.indexAddr_flat tok rfl rfl rfl rfl rfl rfl rfl (show _ = 1 from rfl) rfl qX112 qX113 | exact AStepD.indexAddr_vec' tok rfl rfl rfl rfl rfl rfl (show _ = 1 from rfl) qX112 qX113 | exact AStepD.indexAddr_sl' tok rfl rfl rfl rfl rfl rfl (show _ = 1 from rfl) qX112 qX113 qX114 | exact AStepD.indexAddr_arr' tok rfl rfl rfl rfl rfl rfl (show _ = 1 from rfl) qX112 qX113 qX114) : p := h
theorem qX158 {p : Prop} (h : p := by first | exact Nat.zero_add 70 | exact (show _ + 70 = _ from qX18) | exact (show _ + 70 = _ + 70 from rfl) | exact rfl) : p := h
theorem qX159 {p : Prop} (h : p := by exact SD.s rfl rfl rfl qX128) : p := h
theorem qX160 {p : Prop} (h : p := by exact SD.s rfl rfl rfl qX129) : p := h
theorem qX161 {p : Prop} (h : p := by exact (fun hb => by (repeat (first | apply UW.yes rfl (gpf hb) | apply UW.no)); exact UW.nil qX129)) : p := h
theorem qX162 {p : Prop} (h : p := by exact (fun _ hb => by (repeat (first | apply UW.yes rfl (gpf hb) | apply UW.no)); exact UW.nil qX129)) : p := h
theorem qX163 {p : Prop} (h : p := by first | exact GW.yes rfl rfl rfl rfl rfl rfl rfl qX13 | exact GW.no rfl rfl rfl rfl rfl rfl rfl | exact GW.none rfl rfl rfl rfl rfl | exact GW.may rfl rfl rfl rfl rfl rfl qX131 | exact GW.may2 rfl rfl rfl rfl rfl rfl qX132) : p := h
theorem qX164 {p : Prop} (h : p := by exact SD.s rfl rfl rfl qX133) : p := h
theorem qX165 {p : Prop} (h : p := by first | exact AStepD.fieldAddr' tok rfl rfl rfl rfl rfl rfl rfl qX136 | exact AStepD.fieldAddr_ip' tok rfl rfl rfl rfl rfl rfl rfl (show List.drop 5 _ = _ from rfl)) : p := h
theorem qX166 {p : Prop} (h : p := by first | exact AStepD.load_one tok rfl rfl rfl rfl qX135 rfl qX19 | exact AStepD.load_one_ip tok rfl rfl rfl rfl rfl qX19) : p := h
theorem qX167 {p : Prop} (h : p := by exact SD.s rfl rfl rfl qX137) : p := h
theorem qX168 {p : Prop} (h : p := by exact SD.s rfl rfl rfl qX139) : p := h
theorem qX169 {p : Prop} (h : p := by first | exact AStepD.fieldAddr' tok rfl rfl rfl rfl rfl rfl rfl qX140 | exact AStepD.fieldAddr_ip' tok rfl rfl rfl rfl rfl rfl rfl List.drop_zero) : p := h
theorem qX170 {p : Prop} (h : p := by first | exact AStepD.fieldAddr' tok rfl rfl rfl rfl rfl rfl rfl qX142 | exact AStepD.fieldAddr_ip' tok rfl rfl rfl rfl rfl rfl rfl (show List.drop 1 _ = _ from rfl)) : p := h
theorem qX171 {p : Prop} (h : p := by first | exact GW.yes rfl rfl rfl rfl rfl rfl rfl qX116 | exact GW.no rfl rfl rfl rfl rfl rfl rfl | exact GW.none rfl rfl rfl rfl rfl | exact GW.may rfl rfl rfl rfl rfl rfl qX143 | exact GW.may2 rfl rfl rfl rfl rfl rfl qX144) : p := h
theorem qX172 {p : Prop} (h : p := by first | exact GW.yes rfl rfl rfl rfl rfl rfl rfl qX115 | exact GW.no rfl rfl rfl rfl rfl rfl rfl | exact GW.none rfl rfl rfl rfl rfl | exact GW.may rfl rfl rfl rfl rfl rfl qX145 | exact GW.may2 rfl rfl rfl rfl rfl rfl qX146) : p := h
theorem qX173 {p : Prop} (h : p := by exact (fun hb => by (repeat (first | apply UW.yes rfl (gpf hb) | apply UW.no)); exact UW.nil qX133)) : p := h
theorem qX174 {p : Prop} (h : p := by exact (fun _ hb => by (repeat (first | apply UW.yes rfl (gpf hb) | apply UW.no)); exact UW.nil qX133)) : p := h
theorem qX175 {p : Prop} (h : p := by first | exact GW.yes rfl rfl rfl rfl rfl rfl rfl qX137 | exact GW.no rfl rfl rfl rfl rfl rfl rfl | exact GW.none rfl rfl rfl rfl rfl | exact GW.may rfl rfl rfl rfl rfl rfl (fun hb => by (repeat (first | apply UW.yes rfl (gpf hb) | apply UW.no)); exact UW.nil qX137) | exact GW.may2 rfl rfl rfl rfl rfl rfl (fun _ hb => by (repeat (first | apply UW.yes rfl (gpf hb) | apply UW.no)); exact UW.nil qX137)) : p := h
theorem qX176 {p : Prop} (h : p := by first | exact GW.yes rfl rfl rfl rfl rfl rfl rfl qX117 | exact GW.no rfl rfl rfl rfl rfl rfl rfl | exact GW.none rfl rfl rfl rfl rfl | exact GW.may rfl rfl rfl rfl rfl rfl qX147 | exact GW.may2 rfl rfl rfl rfl rfl rfl qX148) : p := h
theorem qX177 {p : Prop} (h : p := by first | exact AStepD.fieldAddr' tok rfl rfl rfl rfl rfl rfl rfl qX149 | exact AStepD.fieldAddr_ip' tok rfl rfl rfl rfl rfl rfl rfl (show List.drop 2 _ = _ from rfl)) : p := h
theorem qX178 {p : Prop} (h : p := by first | exact AStepD.fieldAddr' tok rfl rfl rfl rfl rfl rfl rfl qX150 | exact AStepD.fieldAddr_ip' tok rfl rfl rfl rfl rfl rfl rfl (show List.drop 3 _ = _ from rfl)) : p := h
theorem qX179 {p : Prop} (h : p := by first | exact GW.yes rfl rfl rfl rfl rfl rfl rfl qX111 | exact GW.no rfl rfl rfl rfl rfl rfl rfl | exact GW.none rfl rfl rfl rfl rfl | exact GW.may rfl rfl rfl rfl rfl rfl qX151 | exact GW.may2 rfl rfl rfl rfl rfl rfl qX152) : p := h
theorem qX180 {p : Prop} (h : p := by first | exact AStepD.fieldAddr' tok rfl rfl rfl rfl rfl rfl rfl qX153 | exact AStepD.fieldAddr_ip' tok rfl rfl rfl rfl rfl rfl rfl (show List.drop 4 _ = _ from rfl)) : p := h
theorem qX181 {p : Prop} (h : p := by first | exact AStepD.load_cel_ip tok rfl rfl rfl rfl (show _ = 3 from rfl) rfl | exact AStepD.load_agg tok rfl rfl rfl qX135 rfl (show _ = 3 from rfl) qX119 qX120 | exact AStepD.load_agg_ip tok rfl rfl rfl rfl (show _ = 3 from rfl) qX119 qX120) : p := h
theorem qX182 {p : Prop} (h : p := by exact (fun hb => by (try (apply AStepD.uncond 3 rfl (gpf hb))); exact qX129)) : p := h
theorem qX183 {p : Prop} (h : p := by exact (fun _ hb => by (try (apply AStepD.uncond 3 rfl (gpf hb))); exact qX129)) : p := h
theorem qX184 {p : Prop} (h : p := by exact (fun hb => by (try (apply AStepD.uncond 113 rfl (gpf hb))); (try (apply AStepD.uncond 115 rfl (gpf hb))); exact qX139)) : p := h
theorem qX185 {p : Prop} (h : p := by exact (fun _ hb => by (try (apply AStepD.uncond 113 rfl (gpf hb))); (try (apply AStepD.uncond 115 rfl (gpf hb))); exact qX139)) : p := h
theorem qX186 {p : Prop} (h : p := by first | exact AStepD.fieldAddr' tok rfl rfl rfl rfl rfl rfl rfl qX156 | exact AStepD.fieldAddr_ip' tok rfl rfl rfl rfl rfl rfl rfl (show List.drop 6 _ = _ from rfl)) : p := h
theorem qX187 {p : Prop} (h : p := by first | exact AStepD.fieldAddr' tok rfl rfl rfl rfl rfl rfl rfl qX158 | exact AStepD.fieldAddr_ip' tok rfl rfl rfl rfl rfl rfl rfl (show List.drop 70 _ = _ from rfl)) : p := h
theorem qX188 {p : Prop} (h : p := by first | exact GW.yes rfl rfl rfl rfl rfl rfl rfl qX157 | exact GW.no rfl rfl rfl rfl rfl rfl rfl | exact GW.none rfl rfl rfl rfl rfl | exact GW.may rfl rfl rfl rfl rfl rfl (fun hb => by (repeat (first | apply UW.yes rfl (gpf hb) | apply UW.no)); exact UW.nil qX157) | exact GW.may2 rfl rfl rfl rfl rfl rfl (fun _ hb => by (repeat (first | apply UW.yes rfl (gpf hb) | apply UW.no)); exact UW.nil qX157)) : p := h
theorem qX189 {p : Prop} (h : p := by exact (fun hb => by (try (apply AStepD.uncond 5 rfl (gpf hb))); exact qX129)) : p := h
theorem qX190 {p : Prop} (h : p := by exact (fun _ hb => by (try (apply AStepD.uncond 5 rfl (gpf hb))); exact qX129)) : p := h
theorem qX191 {p : Prop} (h : p := by first | exact GW.yes rfl rfl rfl rfl rfl rfl rfl qX129 | exact GW.no rfl rfl rfl rfl rfl rfl rfl | exact GW.none rfl rfl rfl rfl rfl | exact GW.may rfl rfl rfl rfl rfl rfl qX161 | exact GW.may2 rfl rfl rfl rfl rfl rfl qX162) : p := h
theorem qX192 {p : Prop} (h : p := by exact SD.s rfl rfl rfl qX165) : p := h
theorem qX193 {p : Prop} (h : p := by exact SD.s rfl rfl rfl qX166) : p := h
theorem qX194 {p : Prop} (h : p := by exact SD.s rfl rfl rfl qX169) : p := h
theorem qX195 {p : Prop} (h : p := by exact (fun hb => by (repeat (first | apply UW.yes rfl (gpf hb) | apply UW.no)); exact UW.nil qX170)) : p := h
theorem qX196 {p : Prop} (h : p := by exact (fun _ hb => by (repeat (first | apply UW.yes rfl (gpf hb) | apply UW.no)); exact UW.nil qX170)) : p := h
theorem qX197 {p : Prop} (h : p := by exact (fun hb => by (repeat (first | apply UW.yes rfl (gpf hb) | apply UW.no)); exact UW.nil qX166)) : p := h
theorem qX198 {p : Prop} (h : p := by exact (fun _ hb => by (repeat (first | apply UW.yes rfl (gpf hb) | apply UW.no)); exact UW.nil qX166)) : p := h
theorem qX199 {p : Prop} (h : p := by exact (fun hb => by (repeat (first | apply UW.yes rfl (gpf hb) | apply UW.no)); exact UW.nil qX169)) : p := h
theorem qX1100 {p : Prop} (h : p := by exact (fun _ hb => by (repeat (first | apply UW.yes rfl (gpf hb) | apply UW.no)); exact UW.nil qX169)) : p := h
theorem qX1101 {p : Prop} (h : p := by first | exact GW.yes rfl rfl rfl rfl rfl rfl rfl qX133 | exact GW.no rfl rfl rfl rfl rfl rfl rfl | exact GW.none rfl rfl rfl rfl rfl | exact GW.may rfl rfl rfl rfl rfl rfl qX173 | exact GW.may2 rfl rfl rfl rfl rfl rfl qX174) : p := h
theorem qX1102 {p : Prop} (h : p := by first | exact GW.yes rfl rfl rfl rfl rfl rfl rfl qX165 | exact GW.no rfl rfl rfl rfl rfl rfl rfl | exact GW.none rfl rfl rfl rfl rfl | exact GW.may rfl rfl rfl rfl rfl rfl (fun hb => by (repeat (first | apply UW.yes rfl (gpf hb) | apply UW.no)); exact UW.nil qX165) | exact GW.may2 rfl rfl rfl rfl rfl rfl (fun _ hb => by (repeat (first | apply UW.yes rfl (gpf hb) | apply UW.no)); exact UW.nil qX165)) : p := h
theorem qX1103 {p : Prop} (h : p := by exact (fun hb => by (repeat (first | apply UW.yes rfl (gpf hb) | apply UW.no)); exact UW.nil qX178)) : p := h
theorem qX1104 {p : Prop} (h : p := by exact (fun _ hb => by (repeat (first | apply UW.yes rfl (gpf hb) | apply UW.no)); exact UW.nil qX178)) : p := h
theorem qX1105 {p : Prop} (h : p := by exact (fun hb => by (repeat (first | apply UW.yes rfl (gpf hb) | apply UW.no)); exact UW.nil qX177)) : p := h
theorem qX1106 {p : Prop} (h : p := by exact (fun _ hb => by (repeat (first | apply UW.yes rfl (gpf hb) | apply UW.no)); exact UW.nil qX177)) : p := h
theorem qX1107 {p : Prop} (h : p := by exact (fun hb => by (repeat (first | apply UW.yes rfl (gpf hb) | apply UW.no)); exact UW.nil qX180)) : p := h
theorem qX1108 {p : Prop} (h : p := by exact (fun _ hb => by (repeat (first | apply UW.yes rfl (gpf hb) | apply UW.no)); exact UW.nil qX180)) : p := h
theorem qX1109 {p : Prop} (h : p := by exact (fun hb => by (try (apply AStepD.uncond 1 rfl (gpf hb))); exact qX165)) : p := h
theorem qX1110 {p : Prop} (h : p := by exact (fun _ hb => by (try (apply AStepD.uncond 1 rfl (gpf hb))); exact qX165)) : p := h
theorem qX1111 {p : Prop} (h : p := by exact (fun hb => by (try (apply AStepD.uncond 112 rfl (gpf hb))); exact qX166)) : p := h
theorem qX1112 {p : Prop} (h : p := by exact (fun _ hb => by (try (apply AStepD.uncond 112 rfl (gpf hb))); exact qX166)) : p := h
theorem qX1113 {p : Prop} (h : p := by exact (fun hb => by (try (apply AStepD.uncond 116 rfl (gpf hb))); exact qX169)) : p := h
theorem qX1114 {p : Prop} (h : p := by exact (fun _ hb => by (try (apply AStepD.uncond 116 rfl (gpf hb))); exact qX169)) : p := h
theorem qX1115 {p : Prop} (h : p := by exact (fun hb => by (try (apply AStepD.uncond 117 rfl (gpf hb))); exact qX166)) : p := h
theorem qX1116 {p : Prop} (h : p := by exact (fun _ hb => by (try (apply AStepD.uncond 117 rfl (gpf hb))); exact qX166)) : p := h
theorem qX1117 {p : Prop} (h : p := by exact (fun hb => by (try (apply AStepD.uncond 4 rfl (gpf hb))); exact qX169)) : p := h
theorem qX1118 {p : Prop} (h : p := by exact (fun _ hb => by (try (apply AStepD.uncond 4 rfl (gpf hb))); exact qX169)) : p := h
theorem qX1119 {p : Prop} (h : p := by exact (fun hb => by (try (apply AStepD.uncond 119 rfl (gpf hb))); exact qX166)) : p := h
theorem qX1120 {p : Prop} (h : p := by exact (fun _ hb => by (try (apply AStepD.uncond 119 rfl (gpf hb))); exact qX166)) : p := h
theorem qX1121 {p : Prop} (h : p := by first | exact GW.yes rfl rfl rfl rfl rfl rfl rfl qX187 | exact GW.no rfl rfl rfl rfl rfl rfl rfl | exact GW.none rfl rfl rfl rfl rfl | exact GW.may rfl rfl rfl rfl rfl rfl (fun hb => by (repeat (first | apply UW.yes rfl (gpf hb) | apply UW.no)); exact UW.nil qX187) | exact GW.may2 rfl rfl rfl rfl rfl rfl (fun _ hb => by (repeat (first | apply UW.yes rfl (gpf hb) | apply UW.no)); exact UW.nil qX187)) : p := h
theorem qX1122 {p : Prop} (h : p := by first | exact GW.yes rfl rfl rfl rfl rfl rfl rfl qX170 | exact GW.no rfl rfl rfl rfl rfl rfl rfl | exact GW.none rfl rfl rfl rfl rfl | exact GW.may rfl rfl rfl rfl rfl rfl qX195 | exact GW.may2 rfl rfl rfl rfl rfl rfl qX196) : p := h
theorem qX1123 {p : Prop} (h : p := by first | exact GW.yes rfl rfl rfl rfl rfl rfl rfl qX166 | exact GW.no rfl rfl rfl rfl rfl rfl rfl | exact GW.none rfl rfl rfl rfl rfl | exact GW.may rfl rfl rfl rfl rfl rfl qX197 | exact GW.may2 rfl rfl rfl rfl rfl rfl qX198) : p := h
theorem qX1124 {p : Prop} (h : p := by first | exact GW.yes rfl rfl rfl rfl rfl rfl rfl qX169 | exact GW.no rfl rfl rfl rfl rfl rfl rfl | exact GW.none rfl rfl rfl rfl rfl | exact GW.may rfl rfl rfl rfl rfl rfl qX199 | exact GW.may2 rfl rfl rfl rfl rfl rfl qX1100) : p := h
theorem qX1125 {p : Prop} (h : p := by first | exact GW.yes rfl rfl rfl rfl rfl rfl rfl qX178 | exact GW.no rfl rfl rfl rfl rfl rfl rfl | exact GW.none rfl rfl rfl rfl rfl | exact GW.may rfl rfl rfl rfl rfl rfl qX1103 | exact GW.may2 rfl rfl rfl rfl rfl rfl qX1104) : p := h
theorem qX1126 {p : Prop} (h : p := by first | exact GW.yes rfl rfl rfl rfl rfl rfl rfl qX177 | exact GW.no rfl rfl rfl rfl rfl rfl rfl | exact GW.none rfl rfl rfl rfl rfl | exact GW.may rfl rfl rfl rfl rfl rfl qX1105 | exact GW.may2 rfl rfl rfl rfl rfl rfl qX1106) : p := h
theorem qX1127 {p : Prop} (h : p := by first | exact GW.yes rfl rfl rfl rfl rfl rfl rfl qX180 | exact GW.no rfl rfl rfl rfl rfl rfl rfl | exact GW.none rfl rfl rfl rfl rfl | exact GW.may rfl rfl rfl rfl rfl rfl qX1107 | exact GW.may2 rfl rfl rfl rfl rfl rfl qX1108) : p := h
set_option linter.unusedSimpArgs false
set_option linter.unusedVariables false
set_option maxRecDepth 20000
open Cel (c)

theorem xid_calls (H : AHeap) (n : Int) : ACalls Tryz.prog 36 [.v (.int .i64 n)] H (fun r H' => r = .v (.bool (idB n)) ∧ H' = H) := by
  refine ACalls.of_body tok Tryz.func36 rfl Tryz.ntmps36 (Nat.le_of_ble_eq_true rfl) (fun base => ?_)
  refine rg fun K hK => ?_
  refine st qX159 <| nt (hK _ _ ?_)
  clear hK K
  refine rg fun K hK => ?_
  refine st qX160 <| st qX130 <| st qX160 <| st (GW.p (l := [0]) qX191) <| st (GW.p (l := [6]) qX163) <| st qX164 <| st qX159 <| nt (hK _ _ ?_)
  clear hK K
  exact AW.ret (RetQ.mk (.inr rfl) (retA_tmp rfl qX11 retA_nil) ⟨rfl, rfl⟩)
theorem xep_calls (H : AHeap) (n : Int) : ACalls Tryz.prog 37 [.v (.int .i64 n)] H (fun r H' => r = .v (.bool (epB n)) ∧ H' = H) := by
  refine ACalls.of_body tok Tryz.func37 rfl Tryz.ntmps37 (Nat.le_of_ble_eq_true rfl) (fun base => ?_)
  refine rg fun K hK => ?_
  refine st qX159 <| nt (hK _ _ ?_)
  clear hK K
  refine rg fun K hK => ?_
  refine st qX160 <| st qX130 <| st qX160 <| st (GW.p (l := [0]) qX191) <| st (GW.p (l := [6]) qX163) <| st qX164 <| st qX159 <| nt (hK _ _ ?_)
  clear hK K
  exact AW.ret (RetQ.mk (.inr rfl) (retA_tmp rfl qX11 retA_nil) ⟨rfl, rfl⟩)
theorem knowsx_calls (H : AHeap) (s : Stt) (h : s.Ok) (w : Int) : ACalls Tryz.prog 38 [stA s, .v (.int .i64 w)] H (fun r H' => r = .v (.bool (knowsB s w)) ∧ H' = H) := by
  refine ACalls.quiet_keep ?_ (.v _)
  have hcl := h.fc (vecA s.known)
  refine ACalls.of_body tok Tryz.func38 rfl Tryz.ntmps38 (Nat.le_of_ble_eq_true rfl) (fun base => ?_)
  refine rg fun K hK => ?_
  refine st (by exact SD.s rfl rfl rfl (by exact AStepD.box (cs := s.cs (vecA s.known)) rfl rfl (s.cs_one rfl))) <| st qX159 <| nt (hK _ _ ?_)
  clear hK K
  refine AW.seq_k (fun K1 hK1 => ?_)
  refine rg fun K hK => ?_
  refine st qX159 <| nt (hK _ _ ?_)
  clear hK K
  refine AW.block ?_
  refine AW.loop_at (ι := Nat) (fun i => [(5, .v (.int .i64 (i : Nat))), (4, .v (.bool false)), (2, .ptr H.next 0), (1, .v (.int .i64 w))])
    (fun i H' => i ≤ s.known.length ∧ H'.get H.next = some (.cells 41 (s.cs (vecA s.known))) ∧ (∀ j (hj : j < s.known.length), j < i → s.known[j].id ≠ w) ∧ Keep H H') (fun i => s.known.length - i) 0 qX134 ⟨Nat.zero_le _, qX135, fun _ _ h => by omega, qX17⟩ ?_
  rintro i H2 ⟨hi, g0, hno, hk⟩
  refine AW.seq_k (fun K2 hK2 => ?_)
  refine rg fun K hK => ?_
  refine st qX160 <| st qX192 <| st qX193 <| st qX167 <| st qX138 <| nt (hK _ _ ?_)
  clear hK K
  refine AW.len (s := 8) (x := vecA s.known) (k := s.known.length) rfl .vec fun hlen => ?_
  have hlen : s.known.length ≤ 9223372036854775807 := hlen
  refine AW.cond _ rfl (fun hc => ?_) (fun hc => ?_)
  · (try simp only [Bool.or_eq_true, Bool.and_eq_true, Bool.or_eq_false_iff, Bool.and_eq_false_iff, Bool.not_eq_true', Bool.not_eq_false', decide_eq_true_eq, decide_eq_false_iff_not, Int.not_lt, Int.not_le] at hc)
    have hil : i < s.known.length := by omega
    refine AW.skip ?_
    refine hK2 _ _ ?_; try clear hK2 K2
    refine AW.seq_k (fun K3 hK3 => ?_)
    refine AW.block ?_
    refine rg fun K hK => ?_
    refine st qX192 <| st qX193 <| st qX160 <| st qX168 <| st qX194 <| st qX193 <| st qX160 <| st qX141 <| nt (hK _ _ ?_)
    clear hK K
    refine AW.cond _ rfl (fun hc => ?_) (fun hc => ?_)
    · (try simp only [Bool.or_eq_true, Bool.and_eq_true, Bool.or_eq_false_iff, Bool.and_eq_false_iff, Bool.not_eq_true', Bool.not_eq_false', decide_eq_true_eq, decide_eq_false_iff_not, Int.not_lt, Int.not_le] at hc)
      refine rg fun K hK => ?_
      refine st qX159 <| nt (hK _ _ ?_)
      clear hK K
      refine AW.ret (RetQ.mk (.inr rfl) (retA_tmp rfl qX11 retA_nil) ⟨?_, hk⟩)
      rw [knowsB, List.any_eq_true.2 ⟨s.known[i], List.getElem_mem hil, decide_eq_true hc⟩, Bool.or_true]; rfl
    · (try simp only [Bool.or_eq_true, Bool.and_eq_true, Bool.or_eq_false_iff, Bool.and_eq_false_iff, Bool.not_eq_true', Bool.not_eq_false', decide_eq_true_eq, decide_eq_false_iff_not, Int.not_lt, Int.not_le] at hc)
      refine AW.skip ?_
      refine hK3 _ _ ?_; try clear hK3 K3
      refine AW.region ?_
      refine st qX160 <| st (by exact SD.s rfl rfl rfl (by exact AStepD.add (r := ((i + 1 : Nat) : Int)) rfl rfl rfl (IntWalk.i64_in _ (by omega)))) <| st qX159 <| AL.nil ?_
      exact ⟨i + 1, by omega, qX134, hil, g0, fun j hj h => (by
        rcases Nat.lt_or_ge j i with h1 | h1
        · exact hno j hj h1
        · obtain rfl : j = i := by omega
          exact hc), hk⟩
  · (try simp only [Bool.or_eq_true, Bool.and_eq_true, Bool.or_eq_false_iff, Bool.and_eq_false_iff, Bool.not_eq_true', Bool.not_eq_false', decide_eq_true_eq, decide_eq_false_iff_not, Int.not_lt, Int.not_le] at hc)
    refine AW.exit ?_
    refine hK1 _ _ ?_; try clear hK1 K1
    refine rg fun K hK => ?_
    refine st qX160 <| st qX194 <| st qX193 <| st qX141 <| st qX159 <| nt (hK _ _ ?_)
    clear hK K
    refine AW.ret (RetQ.mk (.inr rfl) (retA_tmp rfl qX11 retA_nil) ⟨?_, hk⟩)
    have : (s.known.any fun k => decide (k.id = w)) = false := by
      rw [List.any_eq_false]
      intro k hk
      obtain ⟨j, hj, rfl⟩ := List.getElem_of_mem hk
      rw [decide_eq_true_eq]; exact hno j hj (by omega)
    rw [knowsB, this, Bool.or_false]; rfl

/-! Right, plainly. -/
def hd1 (s : Stt) : Bool := idB s.id && masB s.master s.id && decide (s.known.length ≤ 15)
def hd2 (s : Stt) : Bool := epB s.cur && decide (0 ≤ s.vote) && decide (s.vote ≤ s.cur) && decide (0 ≤ s.cfg) && decide (s.cfg ≤ s.cur)
def sX (s : Stt) (i : Nat) : Bool := if s.ow i = 0 then decide (s.ep i = 0) else knowsB s (s.ow i) && epB (s.ep i)
theorem rightX {s : Stt} (h : s.Ok) : rightB s = (hd1 s && hd2 s && knB s.id 0 s.known && (List.range 64).all (sX s)) := by
  rw [Bool.eq_iff_iff]
  simp only [rightB, hd1, hd2, eposB, epB, Bool.and_eq_true, decide_eq_true_eq]
  constructor
  · rintro ⟨h1, ⟨⟨⟨⟨h2, h3⟩, h4⟩, h5⟩, h6⟩, h7⟩
    refine ⟨⟨⟨⟨⟨h2, h3⟩, by omega⟩, by omega⟩, h1⟩, List.all_eq_true.2 fun i hi => ?_⟩
    have hi' := List.mem_range.1 hi
    have h8 := List.all_eq_true.1 h6 i hi
    simp only [slotB, Bool.and_eq_true, Bool.or_eq_true, decide_eq_true_eq] at h8
    rw [sX]
    split
    · rename_i h0
      exact decide_eq_true (h8.2.elim (fun h => absurd h0 h) id)
    · rename_i h0
      rw [Bool.and_eq_true]
      refine ⟨?_, h8.1.2⟩
      rw [ownB, Bool.not_eq_true', List.any_eq_false] at h7
      have := h7 (s.ow i) (by rw [owners_eq h, mem_ownersG]; exact ⟨h0, i, hi', rfl⟩)
      simpa using this
  · rintro ⟨⟨⟨⟨⟨h2, h3⟩, h4⟩, h5⟩, h1⟩, h6⟩
    have hkn : ∀ w, knowsB s w = true → 1 ≤ w ∧ w ≤ 4294967296 := fun w hw => by
      rw [knowsB, Bool.or_eq_true, decide_eq_true_eq, List.any_eq_true] at hw
      rcases hw with rfl | ⟨k, hk, e⟩
      · simpa [idB] using h2
      · have := (kn_all h1).1 k hk
        simp only [kn1, idB, Bool.and_eq_true, decide_eq_true_eq] at this e
        rw [← e]; exact this.1.1.1.1
    refine ⟨h1, ⟨⟨⟨⟨h2, h3⟩, by omega⟩, by omega⟩, List.all_eq_true.2 fun i hi => ?_⟩, ?_⟩
    · have h8 := List.all_eq_true.1 h6 i hi
      rw [sX] at h8
      simp only [slotB, Bool.and_eq_true, Bool.or_eq_true, decide_eq_true_eq]
      split at h8
      · rename_i h0
        have h8 := of_decide_eq_true h8
        rw [h0, h8]; exact ⟨⟨⟨by omega, by omega⟩, by decide⟩, .inr rfl⟩
      · rename_i h0
        rw [Bool.and_eq_true] at h8
        have := hkn _ h8.1
        exact ⟨⟨⟨by omega, this.2⟩, h8.2⟩, .inl h0⟩
    · rw [ownB, Bool.not_eq_true', List.any_eq_false]
      intro w hw
      rw [owners_eq h, mem_ownersG] at hw
      obtain ⟨h0, i, hi, e⟩ := hw
      have e : s.ow i = w := e
      have h8 := List.all_eq_true.1 h6 i (List.mem_range.2 hi)
      rw [sX, e, if_neg h0, Bool.and_eq_true] at h8
      simpa using h8.1
def lastK (l : List Kn) (i : Nat) : Int := if i = 0 then 0 else (l[i - 1]?.map Kn.id).getD 0
theorem last_next (l : List Kn) (i : Nat) (h : i < l.length) : lastK l (i + 1) = l[i].id := by
  rw [lastK, if_neg (by omega), Nat.add_sub_cancel, List.getElem?_eq_getElem h]; rfl
def kx (sid : Int) (k : Kn) : Bool := idB k.id && decide (k.id ≠ sid) && masB k.master k.id && epB k.cfg
theorem kx_kn (sid last : Int) (k : Kn) : kn1 sid last k = (kx sid k && decide (last < k.id)) := by
  rw [Bool.eq_iff_iff]
  simp only [kx, kn1, Bool.and_eq_true, decide_eq_true_eq]
  exact ⟨fun ⟨⟨⟨⟨a, b⟩, cc⟩, d⟩, e⟩ => ⟨⟨⟨⟨a, cc⟩, d⟩, e⟩, b⟩, fun ⟨⟨⟨⟨a, cc⟩, d⟩, e⟩, b⟩ => ⟨⟨⟨⟨a, b⟩, cc⟩, d⟩, e⟩⟩
theorem mas_not (n o : Int) : (decide (n ≠ 0) && (!idB n || decide (n = o))) = !masB n o := by
  rw [masB]
  cases idB n <;> by_cases h0 : n = 0 <;> by_cases h1 : n = o <;> simp [h0, h1]
theorem kx_not (sid : Int) (k : Kn) : (!idB k.id || decide (k.id = sid) || !epB k.cfg || (decide (k.master ≠ 0) && (!idB k.master || decide (k.master = k.id)))) = !kx sid k := by
  rw [mas_not, kx]
  cases idB k.id <;> cases epB k.cfg <;> cases masB k.master k.id <;> by_cases h : k.id = sid <;> simp [h]
theorem hd1_not (s : Stt) : ((!idB s.id || (decide (s.master ≠ 0) && (!idB s.master || decide (s.master = s.id)))) || decide (15 < (s.known.length : Int))) = !hd1 s := by
  rw [mas_not, hd1, show decide (15 < (s.known.length : Int)) = !decide (s.known.length ≤ 15) by rw [← decide_not]; exact decide_eq_decide.2 (by omega)]
  cases idB s.id <;> cases masB s.master s.id <;> simp
theorem hd2_not (s : Stt) : ((((!epB s.cur || decide (s.vote < 0)) || decide (s.cur < s.vote)) || decide (s.cfg < 0)) || decide (s.cur < s.cfg)) = !hd2 s := by
  rw [hd2, Bool.eq_iff_iff]
  simp only [Bool.or_eq_true, Bool.not_eq_true', ← Bool.not_eq_true, Bool.and_eq_true, decide_eq_true_eq]
  cases epB s.cur <;> simp <;> omega
theorem sX_not (s : Stt) (i : Nat) (h : (decide (s.ow i = 0) && decide (s.ep i ≠ 0)) = false) : (decide (s.ow i ≠ 0) && (!knowsB s (s.ow i) || !epB (s.ep i))) = !sX s i := by
  rw [sX]
  by_cases h0 : s.ow i = 0
  · rw [if_pos h0]
    simp only [h0, decide_true, Bool.true_and, decide_eq_false_iff_not, ne_eq, Decidable.not_not] at h
    simp [h0, h]
  · rw [if_neg h0]; simp [h0]
set_option maxHeartbeats 4000000 in
theorem rightx_calls (H : AHeap) (s : Stt) (h : s.Ok) : ACalls Tryz.prog 14 [stA s] H (fun r H' => r = .v (.bool (rightB s)) ∧ H' = H) := by
  refine ACalls.quiet_keep ?_ (.v _)
  have hcl := h.fc (vecA s.known)
  have hf0 : ∀ i, i < 64 → (s.cs (vecA s.known))[6 + i * 1]? = some (.v (.int .i64 (s.ow i))) := fun i hi => by
    rw [show 6 + i * 1 = (i * 1) + 6 by omega]; exact h.tO hi
  have hf1 : ∀ i, i < 64 → (s.cs (vecA s.known))[70 + i * 1]? = some (.v (.int .i64 (s.ep i))) := fun i hi => h.cE hi
  refine ACalls.of_body tok Tryz.func14 rfl Tryz.ntmps14 (Nat.le_of_ble_eq_true rfl) (fun base => ?_)
  refine rg fun K hK => ?_
  refine st (by exact SD.s rfl rfl rfl (by exact AStepD.box (cs := s.cs (vecA s.known)) rfl rfl (s.cs_one rfl))) <| st qX159 <| nt (hK _ _ ?_)
  clear hK K
  refine AW.seq_k (fun K1 hK1 => ?_)
  refine rg fun K hK => ?_
  refine st qX194 <| st qX193 <| st (by exact SD.s rfl rfl rfl (by exact AStepD.callf rfl en36 rfl (xid_calls _ s.id))) <| st (by exact SD.s rfl rfl rfl (by first | exact AStepD.not rfl rfl | exact AStepD.neg rfl rfl (by first | exact IntWalk.i64_in _ (by omega) | exact IntWalk.i64_in _ (by simp only [Bool.or_eq_true, Bool.and_eq_true, Bool.or_eq_false_iff, Bool.and_eq_false_iff, Bool.not_eq_true', Bool.not_eq_false', decide_eq_true_eq, decide_eq_false_iff_not, Int.not_lt, Int.not_le, beq_iff_eq] at *; omega) | exact rfl))) <| st qX160 <| st (GW.p (l := [1]) qX1122) <| st (GW.p (l := [11]) qX1123) <| st (GW.p (l := [12]) qX171) <| st (GW.p (l := [13]) qX191) <| st (GW.p (l := [1]) qX1122) <| st (GW.p (l := [15]) qX1123) <| st (GW.p (l := [16]) (by first | exact GW.yes rfl rfl rfl rfl rfl rfl rfl (by exact AStepD.callf rfl en36 rfl (xid_calls _ s.master)) | exact GW.no rfl rfl rfl rfl rfl rfl rfl | exact GW.none rfl rfl rfl rfl rfl | exact GW.may rfl rfl rfl rfl rfl rfl (fun hb => by (repeat (first | apply UW.yes rfl (gpf hb) | apply UW.no)); exact UW.nil (by exact AStepD.callf rfl en36 rfl (xid_calls _ s.master))) | exact GW.may2 rfl rfl rfl rfl rfl rfl (fun _ hb => by (repeat (first | apply UW.yes rfl (gpf hb) | apply UW.no)); exact UW.nil (by exact AStepD.callf rfl en36 rfl (xid_calls _ s.master))))) <| st (GW.p (l := [17]) (by first | exact GW.yes rfl rfl rfl rfl rfl rfl rfl (by first | exact AStepD.not rfl rfl | exact AStepD.neg rfl rfl (by first | exact IntWalk.i64_in _ (by omega) | exact IntWalk.i64_in _ (by simp only [Bool.or_eq_true, Bool.and_eq_true, Bool.or_eq_false_iff, Bool.and_eq_false_iff, Bool.not_eq_true', Bool.not_eq_false', decide_eq_true_eq, decide_eq_false_iff_not, Int.not_lt, Int.not_le, beq_iff_eq] at *; omega) | exact rfl)) | exact GW.no rfl rfl rfl rfl rfl rfl rfl | exact GW.none rfl rfl rfl rfl rfl | exact GW.may rfl rfl rfl rfl rfl rfl (fun hb => by (repeat (first | apply UW.yes rfl (gpf hb) | apply UW.no)); exact UW.nil (by first | exact AStepD.not rfl rfl | exact AStepD.neg rfl rfl (by first | exact IntWalk.i64_in _ (by omega) | exact IntWalk.i64_in _ (by simp only [Bool.or_eq_true, Bool.and_eq_true, Bool.or_eq_false_iff, Bool.and_eq_false_iff, Bool.not_eq_true', Bool.not_eq_false', decide_eq_true_eq, decide_eq_false_iff_not, Int.not_lt, Int.not_le, beq_iff_eq] at *; omega) | exact rfl))) | exact GW.may2 rfl rfl rfl rfl rfl rfl (fun _ hb => by (repeat (first | apply UW.yes rfl (gpf hb) | apply UW.no)); exact UW.nil (by first | exact AStepD.not rfl rfl | exact AStepD.neg rfl rfl (by first | exact IntWalk.i64_in _ (by omega) | exact IntWalk.i64_in _ (by simp only [Bool.or_eq_true, Bool.and_eq_true, Bool.or_eq_false_iff, Bool.and_eq_false_iff, Bool.not_eq_true', Bool.not_eq_false', decide_eq_true_eq, decide_eq_false_iff_not, Int.not_lt, Int.not_le, beq_iff_eq] at *; omega) | exact rfl))))) <| st (GW.p (l := [18]) qX191) <| st (GW.p (l := [1]) qX1122) <| st (GW.p (l := [20]) qX1123) <| st (GW.p (l := [1]) qX1124) <| st (GW.p (l := [22]) qX1123) <| st (GW.p (l := [21, 23]) qX172) <| st (GW.p (l := [19, 24]) qX1101) <| st (GW.p (l := [14, 25]) qX1101) <| st qX164 <| st qX160 <| st (GW.p (l := [1]) qX1102) <| st (GW.p (l := [29]) qX1123) <| st (GW.p (l := [30]) qX175) <| st (GW.p (l := [31]) qX176) <| st qX164 <| nt (hK _ _ ?_)
  clear hK K
  refine AW.cond _ rfl (fun hc => ?_) (fun hc => ?_)
  · have hc : (!hd1 s) = true := (hd1_not s).symm.trans hc
    refine rg fun K hK => ?_
    refine st qX159 <| nt (hK _ _ ?_)
    clear hK K
    refine AW.ret (RetQ.mk (.inr rfl) (retA_tmp rfl qX11 retA_nil) ⟨?_, qX17⟩)
    rw [rightX h, show hd1 s = false by simpa using hc]; rfl
  have hd1t : hd1 s = true := by have := (hd1_not s).symm.trans hc; simpa using this
  clear hc
  refine AW.skip ?_
  refine hK1 _ _ ?_; try clear hK1 K1
  refine AW.seq_k (fun K2 hK2 => ?_)
  refine rg fun K hK => ?_
  refine st (by exact SD.s rfl rfl rfl qX177) <| st qX193 <| st (by exact SD.s rfl rfl rfl (by exact AStepD.callf rfl en37 rfl (xep_calls _ s.cur))) <| st (by exact SD.s rfl rfl rfl (by first | exact AStepD.not rfl rfl | exact AStepD.neg rfl rfl (by first | exact IntWalk.i64_in _ (by omega) | exact IntWalk.i64_in _ (by simp only [Bool.or_eq_true, Bool.and_eq_true, Bool.or_eq_false_iff, Bool.and_eq_false_iff, Bool.not_eq_true', Bool.not_eq_false', decide_eq_true_eq, decide_eq_false_iff_not, Int.not_lt, Int.not_le, beq_iff_eq] at *; omega) | exact rfl))) <| st qX160 <| st (GW.p (l := [1]) qX1125) <| st (GW.p (l := [39]) qX1123) <| st (GW.p (l := [40]) qX179) <| st qX164 <| st qX160 <| st (GW.p (l := [1]) qX1125) <| st (GW.p (l := [44]) qX1123) <| st (GW.p (l := [1]) qX1126) <| st (GW.p (l := [46]) qX1123) <| st (GW.p (l := [45, 47]) qX176) <| st qX164 <| st qX160 <| st (GW.p (l := [1]) qX1127) <| st (GW.p (l := [51]) qX1123) <| st (GW.p (l := [52]) qX179) <| st qX164 <| st qX160 <| st (GW.p (l := [1]) qX1127) <| st (GW.p (l := [56]) qX1123) <| st (GW.p (l := [1]) qX1126) <| st (GW.p (l := [58]) qX1123) <| st (GW.p (l := [57, 59]) qX176) <| st qX164 <| nt (hK _ _ ?_)
  clear hK K
  refine AW.cond _ rfl (fun hc => ?_) (fun hc => ?_)
  · have hc : (!hd2 s) = true := (hd2_not s).symm.trans hc
    refine rg fun K hK => ?_
    refine st qX159 <| nt (hK _ _ ?_)
    clear hK K
    refine AW.ret (RetQ.mk (.inr rfl) (retA_tmp rfl qX11 retA_nil) ⟨?_, qX17⟩)
    rw [rightX h, hd1t, show hd2 s = false by simpa using hc]; rfl
  have hd2t : hd2 s = true := by have := (hd2_not s).symm.trans hc; simpa using this
  clear hc
  have hkl : s.known.length ≤ 15 := by
    simp only [hd1, Bool.and_eq_true, decide_eq_true_eq] at hd1t; exact hd1t.2
  refine AW.skip ?_
  refine hK2 _ _ ?_; try clear hK2 K2
  refine AW.seq_k (fun K3 hK3 => ?_)
  refine rg fun K hK => ?_
  refine st qX159 <| nt (hK _ _ ?_)
  clear hK K
  refine AW.block ?_
  refine AW.loop_at (ι := Nat) (fun i => [(3, .v (.int .i64 (i : Nat))), (1, .ptr H.next 0)])
    (fun i H' => i ≤ s.known.length ∧ H'.get H.next = some (.cells 41 (s.cs (vecA s.known))) ∧ knB s.id 0 s.known = knB s.id (lastK s.known i) (s.known.drop i) ∧ Keep H H' ∧ H.next < H'.next) (fun i => s.known.length - i) 0 qX134 ⟨Nat.zero_le _, qX135, rfl, qX17, qX118⟩ ?_
  rintro i H2 ⟨hi, g0, hkn, hk, hn⟩
  refine AW.seq_k (fun K4 hK4 => ?_)
  refine rg fun K hK => ?_
  refine st qX160 <| st qX192 <| st qX193 <| st qX167 <| st qX138 <| nt (hK _ _ ?_)
  clear hK K
  refine AW.cond _ rfl (fun hc => ?_) (fun hc => ?_)
  · (try simp only [Bool.or_eq_true, Bool.and_eq_true, Bool.or_eq_false_iff, Bool.and_eq_false_iff, Bool.not_eq_true', Bool.not_eq_false', decide_eq_true_eq, decide_eq_false_iff_not, Int.not_lt, Int.not_le] at hc)
    have hil : i < s.known.length := by omega
    have hln := last_next s.known i hil
    rw [List.drop_eq_getElem_cons hil, knB, kx_kn] at hkn
    refine AW.skip ?_
    refine hK4 _ _ ?_; try clear hK4 K4
    refine AW.seq_k (fun K5 hK5 => ?_)
    refine AW.block ?_
    refine rg fun K hK => ?_
    refine st qX192 <| st qX193 <| st qX160 <| st qX168 <| st (by exact SD.s rfl rfl rfl qX181) <| st (by exact SD.s rfl rfl rfl (by exact AStepD.alloc tok rfl rfl)) <| st0 (by exact ⟨rfl, rfl, (by exact AStepD.store' tok rfl rfl qX135 qX11 (by first | exact one_cells (by with_reducible assumption) | exact qX11) qX121 rfl qX11 rfl qX119 qX122)⟩) <| nt (hK _ _ ?_)
    clear hK K
    generalize s.known[i] = k at hkn hln
    refine AW.seq_k (fun K6 hK6 => ?_)
    refine rg fun K hK => ?_
    refine st qX194 <| st qX193 <| st (by exact SD.s rfl rfl rfl (by exact AStepD.callf rfl en36 rfl (xid_calls _ k.id))) <| st (by exact SD.s rfl rfl rfl (by first | exact AStepD.not rfl rfl | exact AStepD.neg rfl rfl (by first | exact IntWalk.i64_in _ (by omega) | exact IntWalk.i64_in _ (by simp only [Bool.or_eq_true, Bool.and_eq_true, Bool.or_eq_false_iff, Bool.and_eq_false_iff, Bool.not_eq_true', Bool.not_eq_false', decide_eq_true_eq, decide_eq_false_iff_not, Int.not_lt, Int.not_le, beq_iff_eq] at *; omega) | exact rfl))) <| st qX160 <| st (GW.p (l := [4]) qX1124) <| st (GW.p (l := [79]) qX1123) <| st (GW.p (l := [1]) qX1124) <| st (GW.p (l := [81]) qX1123) <| st (GW.p (l := [80, 82]) qX172) <| st qX164 <| st qX160 <| st (GW.p (l := [4]) qX1126) <| st (GW.p (l := [86]) qX1123) <| st (GW.p (l := [87]) (by first | exact GW.yes rfl rfl rfl rfl rfl rfl rfl (by exact AStepD.callf rfl en37 rfl (xep_calls _ k.cfg)) | exact GW.no rfl rfl rfl rfl rfl rfl rfl | exact GW.none rfl rfl rfl rfl rfl | exact GW.may rfl rfl rfl rfl rfl rfl (fun hb => by (repeat (first | apply UW.yes rfl (gpf hb) | apply UW.no)); exact UW.nil (by exact AStepD.callf rfl en37 rfl (xep_calls _ k.cfg))) | exact GW.may2 rfl rfl rfl rfl rfl rfl (fun _ hb => by (repeat (first | apply UW.yes rfl (gpf hb) | apply UW.no)); exact UW.nil (by exact AStepD.callf rfl en37 rfl (xep_calls _ k.cfg))))) <| st (GW.p (l := [88]) (by first | exact GW.yes rfl rfl rfl rfl rfl rfl rfl (by first | exact AStepD.not rfl rfl | exact AStepD.neg rfl rfl (by first | exact IntWalk.i64_in _ (by omega) | exact IntWalk.i64_in _ (by simp only [Bool.or_eq_true, Bool.and_eq_true, Bool.or_eq_false_iff, Bool.and_eq_false_iff, Bool.not_eq_true', Bool.not_eq_false', decide_eq_true_eq, decide_eq_false_iff_not, Int.not_lt, Int.not_le, beq_iff_eq] at *; omega) | exact rfl)) | exact GW.no rfl rfl rfl rfl rfl rfl rfl | exact GW.none rfl rfl rfl rfl rfl | exact GW.may rfl rfl rfl rfl rfl rfl (fun hb => by (repeat (first | apply UW.yes rfl (gpf hb) | apply UW.no)); exact UW.nil (by first | exact AStepD.not rfl rfl | exact AStepD.neg rfl rfl (by first | exact IntWalk.i64_in _ (by omega) | exact IntWalk.i64_in _ (by simp only [Bool.or_eq_true, Bool.and_eq_true, Bool.or_eq_false_iff, Bool.and_eq_false_iff, Bool.not_eq_true', Bool.not_eq_false', decide_eq_true_eq, decide_eq_false_iff_not, Int.not_lt, Int.not_le, beq_iff_eq] at *; omega) | exact rfl))) | exact GW.may2 rfl rfl rfl rfl rfl rfl (fun _ hb => by (repeat (first | apply UW.yes rfl (gpf hb) | apply UW.no)); exact UW.nil (by first | exact AStepD.not rfl rfl | exact AStepD.neg rfl rfl (by first | exact IntWalk.i64_in _ (by omega) | exact IntWalk.i64_in _ (by simp only [Bool.or_eq_true, Bool.and_eq_true, Bool.or_eq_false_iff, Bool.and_eq_false_iff, Bool.not_eq_true', Bool.not_eq_false', decide_eq_true_eq, decide_eq_false_iff_not, Int.not_lt, Int.not_le, beq_iff_eq] at *; omega) | exact rfl))))) <| st qX164 <| st qX160 <| st (GW.p (l := [4]) qX1122) <| st (GW.p (l := [92]) qX1123) <| st (GW.p (l := [93]) qX171) <| st (GW.p (l := [94]) qX191) <| st (GW.p (l := [4]) qX1122) <| st (GW.p (l := [96]) qX1123) <| st (GW.p (l := [97]) (by first | exact GW.yes rfl rfl rfl rfl rfl rfl rfl (by exact AStepD.callf rfl en36 rfl (xid_calls _ k.master)) | exact GW.no rfl rfl rfl rfl rfl rfl rfl | exact GW.none rfl rfl rfl rfl rfl | exact GW.may rfl rfl rfl rfl rfl rfl (fun hb => by (repeat (first | apply UW.yes rfl (gpf hb) | apply UW.no)); exact UW.nil (by exact AStepD.callf rfl en36 rfl (xid_calls _ k.master))) | exact GW.may2 rfl rfl rfl rfl rfl rfl (fun _ hb => by (repeat (first | apply UW.yes rfl (gpf hb) | apply UW.no)); exact UW.nil (by exact AStepD.callf rfl en36 rfl (xid_calls _ k.master))))) <| st (GW.p (l := [98]) (by first | exact GW.yes rfl rfl rfl rfl rfl rfl rfl (by first | exact AStepD.not rfl rfl | exact AStepD.neg rfl rfl (by first | exact IntWalk.i64_in _ (by omega) | exact IntWalk.i64_in _ (by simp only [Bool.or_eq_true, Bool.and_eq_true, Bool.or_eq_false_iff, Bool.and_eq_false_iff, Bool.not_eq_true', Bool.not_eq_false', decide_eq_true_eq, decide_eq_false_iff_not, Int.not_lt, Int.not_le, beq_iff_eq] at *; omega) | exact rfl)) | exact GW.no rfl rfl rfl rfl rfl rfl rfl | exact GW.none rfl rfl rfl rfl rfl | exact GW.may rfl rfl rfl rfl rfl rfl (fun hb => by (repeat (first | apply UW.yes rfl (gpf hb) | apply UW.no)); exact UW.nil (by first | exact AStepD.not rfl rfl | exact AStepD.neg rfl rfl (by first | exact IntWalk.i64_in _ (by omega) | exact IntWalk.i64_in _ (by simp only [Bool.or_eq_true, Bool.and_eq_true, Bool.or_eq_false_iff, Bool.and_eq_false_iff, Bool.not_eq_true', Bool.not_eq_false', decide_eq_true_eq, decide_eq_false_iff_not, Int.not_lt, Int.not_le, beq_iff_eq] at *; omega) | exact rfl))) | exact GW.may2 rfl rfl rfl rfl rfl rfl (fun _ hb => by (repeat (first | apply UW.yes rfl (gpf hb) | apply UW.no)); exact UW.nil (by first | exact AStepD.not rfl rfl | exact AStepD.neg rfl rfl (by first | exact IntWalk.i64_in _ (by omega) | exact IntWalk.i64_in _ (by simp only [Bool.or_eq_true, Bool.and_eq_true, Bool.or_eq_false_iff, Bool.and_eq_false_iff, Bool.not_eq_true', Bool.not_eq_false', decide_eq_true_eq, decide_eq_false_iff_not, Int.not_lt, Int.not_le, beq_iff_eq] at *; omega) | exact rfl))))) <| st (GW.p (l := [99]) qX191) <| st (GW.p (l := [4]) qX1122) <| st (GW.p (l := [101]) qX1123) <| st (GW.p (l := [4]) qX1124) <| st (GW.p (l := [103]) qX1123) <| st (GW.p (l := [102, 104]) qX172) <| st (GW.p (l := [100, 105]) qX1101) <| st (GW.p (l := [95, 106]) qX1101) <| st qX164 <| nt (hK _ _ ?_)
    clear hK K
    refine AW.cond _ rfl (fun hc => ?_) (fun hc => ?_)
    · have hc : (!kx s.id k) = true := (kx_not _ _).symm.trans hc
      refine rg fun K hK => ?_
      refine st qX159 <| nt (hK _ _ ?_)
      clear hK K
      refine AW.ret (RetQ.mk (.inr rfl) (retA_tmp rfl qX11 retA_nil) ⟨?_, qX123⟩)
      rw [rightX h, hkn, show kx s.id k = false by simpa using hc, hd1t, hd2t]; rfl
    have hkx : kx s.id k = true := by have := (kx_not s.id k).symm.trans hc; simpa using this
    clear hc
    rw [hkx, Bool.true_and] at hkn
    refine AW.skip ?_
    refine hK6 _ _ ?_; try clear hK6 K6
    rcases Nat.eq_zero_or_pos i with h0 | h0
    · subst h0
      have hl0 : decide (lastK s.known 0 < k.id) = true := by
        simp only [kx, idB, Bool.and_eq_true, decide_eq_true_eq] at hkx
        exact decide_eq_true (by have := hkx.1.1.1.1; show (0 : Int) < _; omega)
      rw [hl0, Bool.true_and] at hkn
      refine AW.seq_k (fun K hK => ?_)
      apply AW.draw mixed [_, _, _, _, _, _, _, _, _, _, _, _, _, _] [] [_] [(0, 0), (1, 0), (2, 0), (3, 0), (4, 0), (5, 0), (6, 0), (7, 0), (8, 0), (9, 0), (10, 0), (11, 0), (12, 0), (13, 0)] rfl rfl rfl qX124
      · refine ⟨?_, ?_, ?_, ?_, ?_, ?_, ?_, ?_, ?_, ?_, ?_, ?_, ?_, ?_⟩
        · refine Ob.mk _ [3] 0 rfl rfl (restr_cons qX11 restr_nil) rfl ?_
          simp only [List.getD_cons_zero, List.getD_cons_succ]
          exact GStep.plain rfl qX129
        · refine Ob.mk _ [109] 0 rfl rfl (restr_cons qX11 restr_nil) rfl ?_
          simp only [List.getD_cons_zero, List.getD_cons_succ]
          exact GStep.plain rfl (by exact AStepD.bool (AStepD.gtr rfl rfl rfl) (c := false) (decide_eq_false (by omega)))
        · refine Ob.mk _ [110] 0 rfl rfl (restr_cons qX11 restr_nil) rfl ?_
          simp only [List.getD_cons_zero, List.getD_cons_succ]
          exact GStep.plain rfl qX129
        · refine Ob.mk _ [1, 111] 0 rfl rfl (restr_cons qX11 (restr_cons qX11 restr_nil)) rfl ?_
          simp only [List.getD_cons_zero, List.getD_cons_succ]
          first | exact GStep.yes rfl rfl rfl rfl rfl qX165 | exact GStep.no rfl rfl rfl rfl rfl | exact GStep.none rfl rfl rfl | exact GStep.may rfl rfl rfl rfl qX1109 | exact GStep.may2 rfl rfl rfl rfl qX1110
        · refine Ob.mk _ [112, 111] 0 rfl rfl (restr_cons qX11 (restr_cons qX11 restr_nil)) rfl ?_
          simp only [List.getD_cons_zero, List.getD_cons_succ]
          first | exact GStep.yes rfl rfl rfl rfl rfl qX166 | exact GStep.no rfl rfl rfl rfl rfl | exact GStep.none rfl rfl rfl | exact GStep.may rfl rfl rfl rfl qX1111 | exact GStep.may2 rfl rfl rfl rfl qX1112
        · refine Ob.mk _ [3, 111] 0 rfl rfl (restr_cons qX11 (restr_cons qX11 restr_nil)) rfl ?_
          simp only [List.getD_cons_zero, List.getD_cons_succ]
          first | exact GStep.yes rfl rfl rfl rfl rfl qX129 | exact GStep.no rfl rfl rfl rfl rfl | exact GStep.none rfl rfl rfl | exact GStep.may rfl rfl rfl rfl qX182 | exact GStep.may2 rfl rfl rfl rfl qX183
        · refine Ob.mk _ [114, 111] 0 rfl rfl (restr_cons qX11 (restr_cons qX11 restr_nil)) rfl ?_
          simp only [List.getD_cons_zero, List.getD_cons_succ]
          first | exact GStep.yes rfl rfl rfl rfl rfl (by exact AStepD.sub rfl rfl rfl (by first | exact IntWalk.i64_in _ (by omega) | exact IntWalk.i64_in _ (by simp only [Bool.or_eq_true, Bool.and_eq_true, Bool.or_eq_false_iff, Bool.and_eq_false_iff, Bool.not_eq_true', Bool.not_eq_false', decide_eq_true_eq, decide_eq_false_iff_not, Int.not_lt, Int.not_le, beq_iff_eq] at *; omega) | exact rfl)) | exact GStep.no rfl rfl rfl rfl rfl | exact GStep.none rfl rfl rfl | exact GStep.may rfl rfl rfl rfl (fun hb => by (try (apply AStepD.uncond 114 rfl (gpf hb))); exact (by exact AStepD.sub rfl rfl rfl (by first | exact IntWalk.i64_in _ (by omega) | exact IntWalk.i64_in _ (by simp only [Bool.or_eq_true, Bool.and_eq_true, Bool.or_eq_false_iff, Bool.and_eq_false_iff, Bool.not_eq_true', Bool.not_eq_false', decide_eq_true_eq, decide_eq_false_iff_not, Int.not_lt, Int.not_le, beq_iff_eq] at *; omega) | exact rfl))) | exact GStep.may2 rfl rfl rfl rfl (fun _ hb => by (try (apply AStepD.uncond 114 rfl (gpf hb))); exact (by exact AStepD.sub rfl rfl rfl (by first | exact IntWalk.i64_in _ (by omega) | exact IntWalk.i64_in _ (by simp only [Bool.or_eq_true, Bool.and_eq_true, Bool.or_eq_false_iff, Bool.and_eq_false_iff, Bool.not_eq_true', Bool.not_eq_false', decide_eq_true_eq, decide_eq_false_iff_not, Int.not_lt, Int.not_le, beq_iff_eq] at *; omega) | exact rfl)))
        · refine Ob.mk _ [113, 115, 111] 0 rfl rfl (restr_cons qX11 (restr_cons qX11 (restr_cons qX11 restr_nil))) rfl ?_
          simp only [List.getD_cons_zero, List.getD_cons_succ]
          first | exact GStep.yes rfl rfl rfl rfl rfl qX139 | exact GStep.no rfl rfl rfl rfl rfl | exact GStep.none rfl rfl rfl | exact GStep.may rfl rfl rfl rfl qX184 | exact GStep.may2 rfl rfl rfl rfl qX185
        · refine Ob.mk _ [116, 111] 0 rfl rfl (restr_cons qX11 (restr_cons qX11 restr_nil)) rfl ?_
          simp only [List.getD_cons_zero, List.getD_cons_succ]
          first | exact GStep.yes rfl rfl rfl rfl rfl qX169 | exact GStep.no rfl rfl rfl rfl rfl | exact GStep.none rfl rfl rfl | exact GStep.may rfl rfl rfl rfl qX1113 | exact GStep.may2 rfl rfl rfl rfl qX1114
        · refine Ob.mk _ [117, 111] 0 rfl rfl (restr_cons qX11 (restr_cons qX11 restr_nil)) rfl ?_
          simp only [List.getD_cons_zero, List.getD_cons_succ]
          first | exact GStep.yes rfl rfl rfl rfl rfl qX166 | exact GStep.no rfl rfl rfl rfl rfl | exact GStep.none rfl rfl rfl | exact GStep.may rfl rfl rfl rfl qX1115 | exact GStep.may2 rfl rfl rfl rfl qX1116
        · refine Ob.mk _ [4, 111] 0 rfl rfl (restr_cons qX11 (restr_cons qX11 restr_nil)) rfl ?_
          simp only [List.getD_cons_zero, List.getD_cons_succ]
          first | exact GStep.yes rfl rfl rfl rfl rfl qX169 | exact GStep.no rfl rfl rfl rfl rfl | exact GStep.none rfl rfl rfl | exact GStep.may rfl rfl rfl rfl qX1117 | exact GStep.may2 rfl rfl rfl rfl qX1118
        · refine Ob.mk _ [119, 111] 0 rfl rfl (restr_cons qX11 (restr_cons qX11 restr_nil)) rfl ?_
          simp only [List.getD_cons_zero, List.getD_cons_succ]
          first | exact GStep.yes rfl rfl rfl rfl rfl qX166 | exact GStep.no rfl rfl rfl rfl rfl | exact GStep.none rfl rfl rfl | exact GStep.may rfl rfl rfl rfl qX1119 | exact GStep.may2 rfl rfl rfl rfl qX1120
        · refine Ob.mk _ [118, 120, 111] 0 rfl rfl (restr_cons qX11 (restr_cons qX11 (restr_cons qX11 restr_nil))) rfl ?_
          simp only [List.getD_cons_zero, List.getD_cons_succ]
          first | exact GStep.yes rfl rfl rfl rfl rfl qX12 | exact GStep.no rfl rfl rfl rfl rfl | exact GStep.none rfl rfl rfl | exact GStep.may rfl rfl rfl rfl qX154 | exact GStep.may2 rfl rfl rfl rfl qX155
        · refine Ob.mk _ [111, 121] 0 rfl rfl (restr_cons qX11 (restr_cons qX11 restr_nil)) rfl ?_
          simp only [List.getD_cons_zero, List.getD_cons_succ]
          exact GStep.plain rfl qX133
      refine hK _ _ ?_; clear hK K
      refine AW.frame qX125 qX126 ?_
      refine AW.cond_false rfl rfl (AW.skip ?_)
      refine hK5 _ _ ?_; try clear hK5 K5
      refine AW.region ?_
      refine st qX160 <| st (by exact SD.s rfl rfl rfl (by exact AStepD.add (r := ((0 + 1 : Nat) : Int)) rfl rfl rfl (IntWalk.i64_in _ (by omega)))) <| st qX159 <| AL.nil ?_
      exact ⟨0 + 1, by omega, qX134, hil, qX135, by rw [hkn, hln], qX123, qX118⟩
    · obtain ⟨j, rfl⟩ : ∃ j, i = j + 1 := ⟨i - 1, by omega⟩
      have hjl : j < s.known.length := by omega
      rw [last_next s.known j hjl] at hkn
      refine AW.seq_k (fun K hK => ?_)
      apply AW.draw mixed [_, _, _, _, _, _, _, _, _, _, _, _, _, _] [] [_] [(0, 0), (1, 0), (2, 0), (3, 0), (4, 0), (5, 0), (6, 0), (7, 0), (8, 0), (9, 0), (10, 0), (11, 0), (12, 0), (13, 0)] rfl rfl rfl qX124
      · refine ⟨?_, ?_, ?_, ?_, ?_, ?_, ?_, ?_, ?_, ?_, ?_, ?_, ?_, ?_⟩
        · refine Ob.mk _ [3] 0 rfl rfl (restr_cons qX11 restr_nil) rfl ?_
          simp only [List.getD_cons_zero, List.getD_cons_succ]
          exact GStep.plain rfl qX129
        · refine Ob.mk _ [109] 0 rfl rfl (restr_cons qX11 restr_nil) rfl ?_
          simp only [List.getD_cons_zero, List.getD_cons_succ]
          exact GStep.plain rfl (by exact AStepD.bool (AStepD.gtr rfl rfl rfl) (c := true) (decide_eq_true (by omega)))
        · refine Ob.mk _ [110] 0 rfl rfl (restr_cons qX11 restr_nil) rfl ?_
          simp only [List.getD_cons_zero, List.getD_cons_succ]
          exact GStep.plain rfl qX129
        · refine Ob.mk _ [1, 111] 0 rfl rfl (restr_cons qX11 (restr_cons qX11 restr_nil)) rfl ?_
          simp only [List.getD_cons_zero, List.getD_cons_succ]
          first | exact GStep.yes rfl rfl rfl rfl rfl qX165 | exact GStep.no rfl rfl rfl rfl rfl | exact GStep.none rfl rfl rfl | exact GStep.may rfl rfl rfl rfl qX1109 | exact GStep.may2 rfl rfl rfl rfl qX1110
        · refine Ob.mk _ [112, 111] 0 rfl rfl (restr_cons qX11 (restr_cons qX11 restr_nil)) rfl ?_
          simp only [List.getD_cons_zero, List.getD_cons_succ]
          first | exact GStep.yes rfl rfl rfl rfl rfl qX166 | exact GStep.no rfl rfl rfl rfl rfl | exact GStep.none rfl rfl rfl | exact GStep.may rfl rfl rfl rfl qX1111 | exact GStep.may2 rfl rfl rfl rfl qX1112
        · refine Ob.mk _ [3, 111] 0 rfl rfl (restr_cons qX11 (restr_cons qX11 restr_nil)) rfl ?_
          simp only [List.getD_cons_zero, List.getD_cons_succ]
          first | exact GStep.yes rfl rfl rfl rfl rfl qX129 | exact GStep.no rfl rfl rfl rfl rfl | exact GStep.none rfl rfl rfl | exact GStep.may rfl rfl rfl rfl qX182 | exact GStep.may2 rfl rfl rfl rfl qX183
        · refine Ob.mk _ [114, 111] 0 rfl rfl (restr_cons qX11 (restr_cons qX11 restr_nil)) rfl ?_
          simp only [List.getD_cons_zero, List.getD_cons_succ]
          first | exact GStep.yes rfl rfl rfl rfl rfl (by exact AStepD.sub (r := (j : Int)) rfl rfl rfl (by rw [show ((j + 1 : Nat) : Int) - 1 = (j : Int) by omega]; exact IntWalk.i64_in _ (by omega))) | exact GStep.no rfl rfl rfl rfl rfl | exact GStep.none rfl rfl rfl | exact GStep.may rfl rfl rfl rfl (fun hb => by (try (apply AStepD.uncond 114 rfl (gpf hb))); exact (by exact AStepD.sub (r := (j : Int)) rfl rfl rfl (by rw [show ((j + 1 : Nat) : Int) - 1 = (j : Int) by omega]; exact IntWalk.i64_in _ (by omega)))) | exact GStep.may2 rfl rfl rfl rfl (fun _ hb => by (try (apply AStepD.uncond 114 rfl (gpf hb))); exact (by exact AStepD.sub (r := (j : Int)) rfl rfl rfl (by rw [show ((j + 1 : Nat) : Int) - 1 = (j : Int) by omega]; exact IntWalk.i64_in _ (by omega))))
        · refine Ob.mk _ [113, 115, 111] 0 rfl rfl (restr_cons qX11 (restr_cons qX11 (restr_cons qX11 restr_nil))) rfl ?_
          simp only [List.getD_cons_zero, List.getD_cons_succ]
          first | exact GStep.yes rfl rfl rfl rfl rfl qX139 | exact GStep.no rfl rfl rfl rfl rfl | exact GStep.none rfl rfl rfl | exact GStep.may rfl rfl rfl rfl qX184 | exact GStep.may2 rfl rfl rfl rfl qX185
        · refine Ob.mk _ [116, 111] 0 rfl rfl (restr_cons qX11 (restr_cons qX11 restr_nil)) rfl ?_
          simp only [List.getD_cons_zero, List.getD_cons_succ]
          first | exact GStep.yes rfl rfl rfl rfl rfl qX169 | exact GStep.no rfl rfl rfl rfl rfl | exact GStep.none rfl rfl rfl | exact GStep.may rfl rfl rfl rfl qX1113 | exact GStep.may2 rfl rfl rfl rfl qX1114
        · refine Ob.mk _ [117, 111] 0 rfl rfl (restr_cons qX11 (restr_cons qX11 restr_nil)) rfl ?_
          simp only [List.getD_cons_zero, List.getD_cons_succ]
          first | exact GStep.yes rfl rfl rfl rfl rfl qX166 | exact GStep.no rfl rfl rfl rfl rfl | exact GStep.none rfl rfl rfl | exact GStep.may rfl rfl rfl rfl qX1115 | exact GStep.may2 rfl rfl rfl rfl qX1116
        · refine Ob.mk _ [4, 111] 0 rfl rfl (restr_cons qX11 (restr_cons qX11 restr_nil)) rfl ?_
          simp only [List.getD_cons_zero, List.getD_cons_succ]
          first | exact GStep.yes rfl rfl rfl rfl rfl qX169 | exact GStep.no rfl rfl rfl rfl rfl | exact GStep.none rfl rfl rfl | exact GStep.may rfl rfl rfl rfl qX1117 | exact GStep.may2 rfl rfl rfl rfl qX1118
        · refine Ob.mk _ [119, 111] 0 rfl rfl (restr_cons qX11 (restr_cons qX11 restr_nil)) rfl ?_
          simp only [List.getD_cons_zero, List.getD_cons_succ]
          first | exact GStep.yes rfl rfl rfl rfl rfl qX166 | exact GStep.no rfl rfl rfl rfl rfl | exact GStep.none rfl rfl rfl | exact GStep.may rfl rfl rfl rfl qX1119 | exact GStep.may2 rfl rfl rfl rfl qX1120
        · refine Ob.mk _ [118, 120, 111] 0 rfl rfl (restr_cons qX11 (restr_cons qX11 (restr_cons qX11 restr_nil))) rfl ?_
          simp only [List.getD_cons_zero, List.getD_cons_succ]
          first | exact GStep.yes rfl rfl rfl rfl rfl qX12 | exact GStep.no rfl rfl rfl rfl rfl | exact GStep.none rfl rfl rfl | exact GStep.may rfl rfl rfl rfl qX154 | exact GStep.may2 rfl rfl rfl rfl qX155
        · refine Ob.mk _ [111, 121] 0 rfl rfl (restr_cons qX11 (restr_cons qX11 restr_nil)) rfl ?_
          simp only [List.getD_cons_zero, List.getD_cons_succ]
          exact GStep.plain rfl qX133
      refine hK _ _ ?_; clear hK K
      refine AW.frame qX125 qX126 ?_
      refine AW.cond _ rfl (fun hc => ?_) (fun hc => ?_)
      · (try simp only [Bool.or_eq_true, Bool.and_eq_true, Bool.or_eq_false_iff, Bool.and_eq_false_iff, Bool.not_eq_true', Bool.not_eq_false', decide_eq_true_eq, decide_eq_false_iff_not, Int.not_lt, Int.not_le] at hc)
        refine rg fun K hK => ?_
        refine st qX159 <| nt (hK _ _ ?_)
        clear hK K
        refine AW.ret (RetQ.mk (.inr rfl) (retA_tmp rfl qX11 retA_nil) ⟨?_, qX123⟩)
        rw [rightX h, hkn, decide_eq_false (by omega), hd1t, hd2t]; rfl
      · (try simp only [Bool.or_eq_true, Bool.and_eq_true, Bool.or_eq_false_iff, Bool.and_eq_false_iff, Bool.not_eq_true', Bool.not_eq_false', decide_eq_true_eq, decide_eq_false_iff_not, Int.not_lt, Int.not_le] at hc)
        rw [decide_eq_true (by omega), Bool.true_and] at hkn
        refine AW.skip ?_
        refine hK5 _ _ ?_; try clear hK5 K5
        refine AW.region ?_
        refine st qX160 <| st (by exact SD.s rfl rfl rfl (by exact AStepD.add (r := ((j + 1 + 1 : Nat) : Int)) rfl rfl rfl (IntWalk.i64_in _ (by omega)))) <| st qX159 <| AL.nil ?_
        exact ⟨j + 1 + 1, by omega, qX134, hil, qX135, by rw [hkn, hln], qX123, qX118⟩
  (try simp only [Bool.or_eq_true, Bool.and_eq_true, Bool.or_eq_false_iff, Bool.and_eq_false_iff, Bool.not_eq_true', Bool.not_eq_false', decide_eq_true_eq, decide_eq_false_iff_not, Int.not_lt, Int.not_le] at hc)
  obtain rfl : i = s.known.length := by omega
  rw [List.drop_length] at hkn
  have hkn : knB s.id 0 s.known = true := hkn
  refine AW.exit ?_
  refine hK3 _ _ ?_; try clear hK3 K3 hK4 K4
  refine AW.seq_k (fun K7 hK7 => ?_)
  refine rg fun K hK => ?_
  refine st qX159 <| nt (hK _ _ ?_)
  clear hK K
  refine AW.block ?_
  refine AW.loop_at (ι := Nat) (fun i => [(5, .v (.int .i64 (i : Nat))), (1, .ptr H.next 0)])
    (fun i H' => i ≤ 64 ∧ H'.get H.next = some (.cells 41 (s.cs (vecA s.known))) ∧ (∀ j, j < i → sX s j = true) ∧ Keep H H' ∧ H.next < H'.next) (fun i => 64 - i) 0 qX134 ⟨Nat.zero_le _, qX135, fun _ h => by omega, qX123, qX118⟩ ?_
  rintro i H3 ⟨hi, g1, hal, hk3, hn3⟩
  refine AW.seq_k (fun K8 hK8 => ?_)
  refine rg fun K hK => ?_
  refine st qX160 <| st qX138 <| nt (hK _ _ ?_)
  clear hK K
  refine AW.cond _ rfl (fun hc => ?_) (fun hc => ?_)
  · (try simp only [Bool.or_eq_true, Bool.and_eq_true, Bool.or_eq_false_iff, Bool.and_eq_false_iff, Bool.not_eq_true', Bool.not_eq_false', decide_eq_true_eq, decide_eq_false_iff_not, Int.not_lt, Int.not_le] at hc)
    have hil : i < 64 := by omega
    have e1 := hf0 i hil
    have e2 := hf1 i hil
    refine AW.skip ?_
    refine hK8 _ _ ?_; try clear hK8 K8
    refine AW.seq_k (fun K9 hK9 => ?_)
    refine AW.block ?_
    refine AW.seq_k (fun K10 hK10 => ?_)
    refine rg fun K hK => ?_
    refine st qX160 <| st (by exact SD.s rfl rfl rfl qX186) <| st (by exact SD.s rfl rfl rfl qX157) <| st (by exact SD.s rfl rfl rfl (by exact AStepD.load_one tok rfl rfl rfl rfl g1 rfl e1)) <| st qX141 <| st qX160 <| st (GW.p (l := [5]) qX191) <| st (GW.p (l := [1]) qX1121) <| st (GW.p (l := [134, 133]) qX188) <| st (GW.p (l := [135]) (by first | exact GW.yes rfl rfl rfl rfl rfl rfl rfl (by exact AStepD.load_one tok rfl rfl rfl rfl g1 rfl e2) | exact GW.no rfl rfl rfl rfl rfl rfl rfl | exact GW.none rfl rfl rfl rfl rfl | exact GW.may rfl rfl rfl rfl rfl rfl (fun hb => by (repeat (first | apply UW.yes rfl (gpf hb) | apply UW.no)); exact UW.nil (by exact AStepD.load_one tok rfl rfl rfl rfl g1 rfl e2)) | exact GW.may2 rfl rfl rfl rfl rfl rfl (fun _ hb => by (repeat (first | apply UW.yes rfl (gpf hb) | apply UW.no)); exact UW.nil (by exact AStepD.load_one tok rfl rfl rfl rfl g1 rfl e2)))) <| st (GW.p (l := [136]) qX171) <| st qX164 <| nt (hK _ _ ?_)
    clear hK K
    refine AW.cond _ rfl (fun hc => ?_) (fun hc => ?_)
    · have hc : (decide (s.ow i = 0) && decide (s.ep i ≠ 0)) = true := hc
      refine rg fun K hK => ?_
      refine st qX159 <| nt (hK _ _ ?_)
      clear hK K
      refine AW.ret (RetQ.mk (.inr rfl) (retA_tmp rfl qX11 retA_nil) ⟨?_, qX123⟩)
      rw [Bool.and_eq_true, decide_eq_true_eq, decide_eq_true_eq] at hc
      have : (List.range 64).all (sX s) = false := List.all_eq_false.2 ⟨i, List.mem_range.2 hil, by rw [sX, if_pos hc.1]; simpa using hc.2⟩
      rw [rightX h, hkn, hd1t, hd2t, this]; rfl
    have hc1 : (decide (s.ow i = 0) && decide (s.ep i ≠ 0)) = false := hc
    clear hc
    refine AW.skip ?_
    refine hK10 _ _ ?_; try clear hK10 K10
    refine AW.seq_k (fun K hK => ?_)
    apply AW.draw mixed [_, _, _, _, _, _, _, _, _, _, _, _, _, _, _, _, _, _, _, _, _, _] [] [_] [(0, 0), (1, 0), (2, 0), (3, 0), (4, 0), (5, 0), (6, 0), (7, 0), (8, 0), (9, 0), (10, 0), (11, 0), (12, 0), (13, 0), (14, 0), (15, 0), (16, 0), (17, 0), (18, 0), (19, 0), (20, 0), (21, 0)] rfl rfl rfl qX124
    · refine ⟨?_, ?_, ?_, ?_, ?_, ?_, ?_, ?_, ?_, ?_, ?_, ?_, ?_, ?_, ?_, ?_, ?_, ?_, ?_, ?_, ?_, ?_⟩
      · refine Ob.mk _ [5] 0 rfl rfl (restr_cons qX11 restr_nil) rfl ?_
        simp only [List.getD_cons_zero, List.getD_cons_succ]
        exact GStep.plain rfl qX129
      · refine Ob.mk _ [1] 0 rfl rfl (restr_cons qX11 restr_nil) rfl ?_
        simp only [List.getD_cons_zero, List.getD_cons_succ]
        exact GStep.plain rfl qX186
      · refine Ob.mk _ [140, 139] 0 rfl rfl (restr_cons qX11 (restr_cons qX11 restr_nil)) rfl ?_
        simp only [List.getD_cons_zero, List.getD_cons_succ]
        exact GStep.plain rfl qX157
      · refine Ob.mk _ [141] 0 rfl rfl (restr_cons qX11 restr_nil) rfl ?_
        simp only [List.getD_cons_zero, List.getD_cons_succ]
        exact GStep.plain rfl (by exact AStepD.load_one tok rfl rfl rfl rfl g1 rfl e1)
      · refine Ob.mk _ [142] 0 rfl rfl (restr_cons qX11 restr_nil) rfl ?_
        simp only [List.getD_cons_zero, List.getD_cons_succ]
        exact GStep.plain rfl qX116
      · refine Ob.mk _ [143] 0 rfl rfl (restr_cons qX11 restr_nil) rfl ?_
        simp only [List.getD_cons_zero, List.getD_cons_succ]
        exact GStep.plain rfl qX129
      · refine Ob.mk _ [1, 144] 0 rfl rfl (restr_cons qX11 (restr_cons qX11 restr_nil)) rfl ?_
        simp only [List.getD_cons_zero, List.getD_cons_succ]
        first | exact GStep.yes rfl rfl rfl rfl rfl (by exact AStepD.load_agg (cs := s.cs (vecA s.known)) (zs := s.cs (vecA s.known)) tok rfl rfl rfl g1 rfl (show _ = 134 from rfl) (by omega) qX127) | exact GStep.no rfl rfl rfl rfl rfl | exact GStep.none rfl rfl rfl | exact GStep.may rfl rfl rfl rfl (fun hb => by (try (apply AStepD.uncond 1 rfl (gpf hb))); exact (by exact AStepD.load_agg (cs := s.cs (vecA s.known)) (zs := s.cs (vecA s.known)) tok rfl rfl rfl g1 rfl (show _ = 134 from rfl) (by omega) qX127)) | exact GStep.may2 rfl rfl rfl rfl (fun _ hb => by (try (apply AStepD.uncond 1 rfl (gpf hb))); exact (by exact AStepD.load_agg (cs := s.cs (vecA s.known)) (zs := s.cs (vecA s.known)) tok rfl rfl rfl g1 rfl (show _ = 134 from rfl) (by omega) qX127))
      · refine Ob.mk _ [5, 144] 0 rfl rfl (restr_cons qX11 (restr_cons qX11 restr_nil)) rfl ?_
        simp only [List.getD_cons_zero, List.getD_cons_succ]
        first | exact GStep.yes rfl rfl rfl rfl rfl qX129 | exact GStep.no rfl rfl rfl rfl rfl | exact GStep.none rfl rfl rfl | exact GStep.may rfl rfl rfl rfl qX189 | exact GStep.may2 rfl rfl rfl rfl qX190
      · refine Ob.mk _ [1, 144] 0 rfl rfl (restr_cons qX11 (restr_cons qX11 restr_nil)) rfl ?_
        simp only [List.getD_cons_zero, List.getD_cons_succ]
        first | exact GStep.yes rfl rfl rfl rfl rfl qX186 | exact GStep.no rfl rfl rfl rfl rfl | exact GStep.none rfl rfl rfl | exact GStep.may rfl rfl rfl rfl (fun hb => by (try (apply AStepD.uncond 1 rfl (gpf hb))); exact qX186) | exact GStep.may2 rfl rfl rfl rfl (fun _ hb => by (try (apply AStepD.uncond 1 rfl (gpf hb))); exact qX186)
      · refine Ob.mk _ [147, 146, 144] 0 rfl rfl (restr_cons qX11 (restr_cons qX11 (restr_cons qX11 restr_nil))) rfl ?_
        simp only [List.getD_cons_zero, List.getD_cons_succ]
        first | exact GStep.yes rfl rfl rfl rfl rfl qX157 | exact GStep.no rfl rfl rfl rfl rfl | exact GStep.none rfl rfl rfl | exact GStep.may rfl rfl rfl rfl (fun hb => by (try (apply AStepD.uncond 147 rfl (gpf hb))); (try (apply AStepD.uncond 146 rfl (gpf hb))); exact qX157) | exact GStep.may2 rfl rfl rfl rfl (fun _ hb => by (try (apply AStepD.uncond 147 rfl (gpf hb))); (try (apply AStepD.uncond 146 rfl (gpf hb))); exact qX157)
      · refine Ob.mk _ [148, 144] 0 rfl rfl (restr_cons qX11 (restr_cons qX11 restr_nil)) rfl ?_
        simp only [List.getD_cons_zero, List.getD_cons_succ]
        first | exact GStep.yes rfl rfl rfl rfl rfl (by exact AStepD.load_one tok rfl rfl rfl rfl g1 rfl e1) | exact GStep.no rfl rfl rfl rfl rfl | exact GStep.none rfl rfl rfl | exact GStep.may rfl rfl rfl rfl (fun hb => by (try (apply AStepD.uncond 148 rfl (gpf hb))); exact (by exact AStepD.load_one tok rfl rfl rfl rfl g1 rfl e1)) | exact GStep.may2 rfl rfl rfl rfl (fun _ hb => by (try (apply AStepD.uncond 148 rfl (gpf hb))); exact (by exact AStepD.load_one tok rfl rfl rfl rfl g1 rfl e1))
      · refine Ob.mk _ [145, 149, 144] 0 rfl rfl (restr_cons qX11 (restr_cons qX11 (restr_cons qX11 restr_nil))) rfl ?_
        simp only [List.getD_cons_zero, List.getD_cons_succ]
        first | exact GStep.yes rfl rfl rfl rfl rfl (by exact AStepD.callf rfl en38 rfl (knowsx_calls _ s h (s.ow i))) | exact GStep.no rfl rfl rfl rfl rfl | exact GStep.none rfl rfl rfl | exact GStep.may rfl rfl rfl rfl (fun hb => by (try (apply AStepD.uncond 145 rfl (gpf hb))); (try (apply AStepD.uncond 149 rfl (gpf hb))); exact (by exact AStepD.callf rfl en38 rfl (knowsx_calls _ s h (s.ow i)))) | exact GStep.may2 rfl rfl rfl rfl (fun _ hb => by (try (apply AStepD.uncond 145 rfl (gpf hb))); (try (apply AStepD.uncond 149 rfl (gpf hb))); exact (by exact AStepD.callf rfl en38 rfl (knowsx_calls _ s h (s.ow i))))
      · refine Ob.mk _ [150, 144] 0 rfl rfl (restr_cons qX11 (restr_cons qX11 restr_nil)) rfl ?_
        simp only [List.getD_cons_zero, List.getD_cons_succ]
        first | exact GStep.yes rfl rfl rfl rfl rfl (by first | exact AStepD.not rfl rfl | exact AStepD.neg rfl rfl (by first | exact IntWalk.i64_in _ (by omega) | exact IntWalk.i64_in _ (by simp only [Bool.or_eq_true, Bool.and_eq_true, Bool.or_eq_false_iff, Bool.and_eq_false_iff, Bool.not_eq_true', Bool.not_eq_false', decide_eq_true_eq, decide_eq_false_iff_not, Int.not_lt, Int.not_le, beq_iff_eq] at *; omega) | exact rfl)) | exact GStep.no rfl rfl rfl rfl rfl | exact GStep.none rfl rfl rfl | exact GStep.may rfl rfl rfl rfl (fun hb => by (try (apply AStepD.uncond 150 rfl (gpf hb))); exact (by first | exact AStepD.not rfl rfl | exact AStepD.neg rfl rfl (by first | exact IntWalk.i64_in _ (by omega) | exact IntWalk.i64_in _ (by simp only [Bool.or_eq_true, Bool.and_eq_true, Bool.or_eq_false_iff, Bool.and_eq_false_iff, Bool.not_eq_true', Bool.not_eq_false', decide_eq_true_eq, decide_eq_false_iff_not, Int.not_lt, Int.not_le, beq_iff_eq] at *; omega) | exact rfl))) | exact GStep.may2 rfl rfl rfl rfl (fun _ hb => by (try (apply AStepD.uncond 150 rfl (gpf hb))); exact (by first | exact AStepD.not rfl rfl | exact AStepD.neg rfl rfl (by first | exact IntWalk.i64_in _ (by omega) | exact IntWalk.i64_in _ (by simp only [Bool.or_eq_true, Bool.and_eq_true, Bool.or_eq_false_iff, Bool.and_eq_false_iff, Bool.not_eq_true', Bool.not_eq_false', decide_eq_true_eq, decide_eq_false_iff_not, Int.not_lt, Int.not_le, beq_iff_eq] at *; omega) | exact rfl)))
      · refine Ob.mk _ [151, 144] 0 rfl rfl (restr_cons qX11 (restr_cons qX11 restr_nil)) rfl ?_
        simp only [List.getD_cons_zero, List.getD_cons_succ]
        first | exact GStep.yes rfl rfl rfl rfl rfl qX129 | exact GStep.no rfl rfl rfl rfl rfl | exact GStep.none rfl rfl rfl | exact GStep.may rfl rfl rfl rfl (fun hb => by (try (apply AStepD.uncond 151 rfl (gpf hb))); exact qX129) | exact GStep.may2 rfl rfl rfl rfl (fun _ hb => by (try (apply AStepD.uncond 151 rfl (gpf hb))); exact qX129)
      · refine Ob.mk _ [5, 152] 0 rfl rfl (restr_cons qX11 (restr_cons qX11 restr_nil)) rfl ?_
        simp only [List.getD_cons_zero, List.getD_cons_succ]
        first | exact GStep.yes rfl rfl rfl rfl rfl qX129 | exact GStep.no rfl rfl rfl rfl rfl | exact GStep.none rfl rfl rfl | exact GStep.may rfl rfl rfl rfl qX189 | exact GStep.may2 rfl rfl rfl rfl qX190
      · refine Ob.mk _ [1, 152] 0 rfl rfl (restr_cons qX11 (restr_cons qX11 restr_nil)) rfl ?_
        simp only [List.getD_cons_zero, List.getD_cons_succ]
        first | exact GStep.yes rfl rfl rfl rfl rfl qX187 | exact GStep.no rfl rfl rfl rfl rfl | exact GStep.none rfl rfl rfl | exact GStep.may rfl rfl rfl rfl (fun hb => by (try (apply AStepD.uncond 1 rfl (gpf hb))); exact qX187) | exact GStep.may2 rfl rfl rfl rfl (fun _ hb => by (try (apply AStepD.uncond 1 rfl (gpf hb))); exact qX187)
      · refine Ob.mk _ [154, 153, 152] 0 rfl rfl (restr_cons qX11 (restr_cons qX11 (restr_cons qX11 restr_nil))) rfl ?_
        simp only [List.getD_cons_zero, List.getD_cons_succ]
        first | exact GStep.yes rfl rfl rfl rfl rfl qX157 | exact GStep.no rfl rfl rfl rfl rfl | exact GStep.none rfl rfl rfl | exact GStep.may rfl rfl rfl rfl (fun hb => by (try (apply AStepD.uncond 154 rfl (gpf hb))); (try (apply AStepD.uncond 153 rfl (gpf hb))); exact qX157) | exact GStep.may2 rfl rfl rfl rfl (fun _ hb => by (try (apply AStepD.uncond 154 rfl (gpf hb))); (try (apply AStepD.uncond 153 rfl (gpf hb))); exact qX157)
      · refine Ob.mk _ [155, 152] 0 rfl rfl (restr_cons qX11 (restr_cons qX11 restr_nil)) rfl ?_
        simp only [List.getD_cons_zero, List.getD_cons_succ]
        first | exact GStep.yes rfl rfl rfl rfl rfl (by exact AStepD.load_one tok rfl rfl rfl rfl g1 rfl e2) | exact GStep.no rfl rfl rfl rfl rfl | exact GStep.none rfl rfl rfl | exact GStep.may rfl rfl rfl rfl (fun hb => by (try (apply AStepD.uncond 155 rfl (gpf hb))); exact (by exact AStepD.load_one tok rfl rfl rfl rfl g1 rfl e2)) | exact GStep.may2 rfl rfl rfl rfl (fun _ hb => by (try (apply AStepD.uncond 155 rfl (gpf hb))); exact (by exact AStepD.load_one tok rfl rfl rfl rfl g1 rfl e2))
      · refine Ob.mk _ [156, 152] 0 rfl rfl (restr_cons qX11 (restr_cons qX11 restr_nil)) rfl ?_
        simp only [List.getD_cons_zero, List.getD_cons_succ]
        first | exact GStep.yes rfl rfl rfl rfl rfl (by exact AStepD.callf rfl en37 rfl (xep_calls _ (s.ep i))) | exact GStep.no rfl rfl rfl rfl rfl | exact GStep.none rfl rfl rfl | exact GStep.may rfl rfl rfl rfl (fun hb => by (try (apply AStepD.uncond 156 rfl (gpf hb))); exact (by exact AStepD.callf rfl en37 rfl (xep_calls _ (s.ep i)))) | exact GStep.may2 rfl rfl rfl rfl (fun _ hb => by (try (apply AStepD.uncond 156 rfl (gpf hb))); exact (by exact AStepD.callf rfl en37 rfl (xep_calls _ (s.ep i))))
      · refine Ob.mk _ [157, 152] 0 rfl rfl (restr_cons qX11 (restr_cons qX11 restr_nil)) rfl ?_
        simp only [List.getD_cons_zero, List.getD_cons_succ]
        first | exact GStep.yes rfl rfl rfl rfl rfl (by first | exact AStepD.not rfl rfl | exact AStepD.neg rfl rfl (by first | exact IntWalk.i64_in _ (by omega) | exact IntWalk.i64_in _ (by simp only [Bool.or_eq_true, Bool.and_eq_true, Bool.or_eq_false_iff, Bool.and_eq_false_iff, Bool.not_eq_true', Bool.not_eq_false', decide_eq_true_eq, decide_eq_false_iff_not, Int.not_lt, Int.not_le, beq_iff_eq] at *; omega) | exact rfl)) | exact GStep.no rfl rfl rfl rfl rfl | exact GStep.none rfl rfl rfl | exact GStep.may rfl rfl rfl rfl (fun hb => by (try (apply AStepD.uncond 157 rfl (gpf hb))); exact (by first | exact AStepD.not rfl rfl | exact AStepD.neg rfl rfl (by first | exact IntWalk.i64_in _ (by omega) | exact IntWalk.i64_in _ (by simp only [Bool.or_eq_true, Bool.and_eq_true, Bool.or_eq_false_iff, Bool.and_eq_false_iff, Bool.not_eq_true', Bool.not_eq_false', decide_eq_true_eq, decide_eq_false_iff_not, Int.not_lt, Int.not_le, beq_iff_eq] at *; omega) | exact rfl))) | exact GStep.may2 rfl rfl rfl rfl (fun _ hb => by (try (apply AStepD.uncond 157 rfl (gpf hb))); exact (by first | exact AStepD.not rfl rfl | exact AStepD.neg rfl rfl (by first | exact IntWalk.i64_in _ (by omega) | exact IntWalk.i64_in _ (by simp only [Bool.or_eq_true, Bool.and_eq_true, Bool.or_eq_false_iff, Bool.and_eq_false_iff, Bool.not_eq_true', Bool.not_eq_false', decide_eq_true_eq, decide_eq_false_iff_not, Int.not_lt, Int.not_le, beq_iff_eq] at *; omega) | exact rfl)))
      · refine Ob.mk _ [152, 158, 144] 0 rfl rfl (restr_cons qX11 (restr_cons qX11 (restr_cons qX11 restr_nil))) rfl ?_
        simp only [List.getD_cons_zero, List.getD_cons_succ]
        first | exact GStep.yes rfl rfl rfl rfl rfl qX133 | exact GStep.no rfl rfl rfl rfl rfl | exact GStep.none rfl rfl rfl | exact GStep.may rfl rfl rfl rfl (fun hb => by (try (apply AStepD.uncond 152 rfl (gpf hb))); (try (apply AStepD.uncond 158 rfl (gpf hb))); exact qX133) | exact GStep.may2 rfl rfl rfl rfl (fun _ hb => by (try (apply AStepD.uncond 152 rfl (gpf hb))); (try (apply AStepD.uncond 158 rfl (gpf hb))); exact qX133)
      · refine Ob.mk _ [144, 159] 0 rfl rfl (restr_cons qX11 (restr_cons qX11 restr_nil)) rfl ?_
        simp only [List.getD_cons_zero, List.getD_cons_succ]
        exact GStep.plain rfl qX133
    refine hK _ _ ?_; clear hK K
    refine AW.frame qX125 qX126 ?_
    refine AW.cond _ rfl (fun hc => ?_) (fun hc => ?_)
    · have hc : (!sX s i) = true := (sX_not s i hc1).symm.trans hc
      refine rg fun K hK => ?_
      refine st qX159 <| nt (hK _ _ ?_)
      clear hK K
      refine AW.ret (RetQ.mk (.inr rfl) (retA_tmp rfl qX11 retA_nil) ⟨?_, qX123⟩)
      have : (List.range 64).all (sX s) = false := List.all_eq_false.2 ⟨i, List.mem_range.2 hil, by simpa using hc⟩
      rw [rightX h, hkn, hd1t, hd2t, this]; rfl
    · have hc : sX s i = true := by have := (sX_not s i hc1).symm.trans hc; simpa using this
      refine AW.skip ?_
      refine hK9 _ _ ?_; try clear hK9 K9
      refine AW.region ?_
      refine st qX160 <| st (by exact SD.s rfl rfl rfl (by exact AStepD.add (r := ((i + 1 : Nat) : Int)) rfl rfl rfl (IntWalk.i64_in _ (by omega)))) <| st qX159 <| AL.nil ?_
      exact ⟨i + 1, by omega, qX134, hil, qX135, fun j hj => (by
        rcases Nat.lt_or_ge j i with h1 | h1
        · exact hal j h1
        · obtain rfl : j = i := by omega
          exact hc), qX123, qX118⟩
  (try simp only [Bool.or_eq_true, Bool.and_eq_true, Bool.or_eq_false_iff, Bool.and_eq_false_iff, Bool.not_eq_true', Bool.not_eq_false', decide_eq_true_eq, decide_eq_false_iff_not, Int.not_lt, Int.not_le] at hc)
  obtain rfl : i = 64 := by omega
  refine AW.exit ?_
  refine hK7 _ _ ?_; try clear hK7 K7 hK8 K8
  refine rg fun K hK => ?_
  refine st qX159 <| nt (hK _ _ ?_)
  clear hK K
  refine AW.ret (RetQ.mk (.inr rfl) (retA_tmp rfl qX11 retA_nil) ⟨?_, qX123⟩)
  rw [rightX h, hkn, hd1t, hd2t, List.all_eq_true.2 fun j hj => hal j (List.mem_range.1 hj)]; rfl
end Go.Proofs.YtcomjodfkcnjhaaGreatDoor

/- A state as the document has it. -/

namespace Go.Proofs.YtcomjodfkcnjhaaGreatDoor
open Go.Ax
open Cel (c)
theorem qX21 {p : Prop} (h : p := by exact SD.s rfl rfl rfl qP321) : p := h
theorem qX22 {p : Prop} (h : p := by exact SD.s rfl rfl rfl qP34) : p := h
theorem qX23 {p : Prop} (h : p := by first | exact Nat.zero_add 1 | exact (show _ + 1 = _ from qP36) | exact (show _ + 1 = _ + 1 from rfl) | exact rfl) : p := h
theorem qX25 {p : Prop} (h : p := by first | exact Nat.zero_add 2 | exact (show _ + 2 = _ from qP36) | exact (show _ + 2 = _ + 2 from rfl) | exact rfl) : p := h
theorem qX27 {p : Prop} (h : p := by exact SD.s rfl rfl rfl qP323) : p := h
theorem qX28 {p : Prop} (h : p := by exact SD.s rfl rfl rfl qP322) : p := h
theorem qX29 {p : Prop} (h : p := by first | exact AStepD.indexAddr_flat tok rfl rfl rfl rfl rfl rfl rfl (show _ = 3 from rfl) rfl qP26 qP27 | exact AStepD.indexAddr_vec' tok rfl rfl rfl rfl rfl rfl (show _ = 3 from rfl) qP26 qP27 | exact AStepD.indexAddr_sl' tok rfl rfl rfl rfl rfl rfl (show _ = 3 from rfl) qP26 qP27 qP28 | exact AStepD.indexAddr_arr' tok rfl rfl rfl rfl rfl rfl (show _ = 3 from rfl) qP26 qP27 qP28) : p := h
theorem qX210 {p : Prop} (h : p := by first | exact AStepD.load_cel_ip tok rfl rfl rfl rfl (show _ = 3 from rfl) rfl | exact AStepD.load_agg tok rfl rfl rfl qP219 rfl (show _ = 3 from rfl) qX119 qX120 | exact AStepD.load_agg_ip tok rfl rfl rfl rfl (show _ = 3 from rfl) qX119 qX120) : p := h
theorem qX211 {p : Prop} (h : p := by first | exact AStepD.fieldAddr' tok rfl rfl rfl rfl rfl rfl rfl qX23 | exact AStepD.fieldAddr_ip' tok rfl rfl rfl rfl rfl rfl rfl (show List.drop 1 _ = _ from rfl)) : p := h
theorem qX212 {p : Prop} (h : p := by first | exact AStepD.fieldAddr' tok rfl rfl rfl rfl rfl rfl rfl qX25 | exact AStepD.fieldAddr_ip' tok rfl rfl rfl rfl rfl rfl rfl (show List.drop 2 _ = _ from rfl)) : p := h
theorem qX213 {p : Prop} (h : p := by exact SD.s rfl rfl rfl qX211) : p := h
theorem qX214 {p : Prop} (h : p := by exact SD.s rfl rfl rfl qX212) : p := h
set_option linter.unusedSimpArgs false
set_option linter.unusedVariables false
set_option maxRecDepth 20000
open Cel (c)

theorem zS33 : AV.ofV (tt 41).zero = zS.cs (.v (.slice none 0 0)) := by kernel_rfl
theorem afill_one {pl : Nat → Option (Nat × Nat)} {cs cs' : List AV} {i off size : Nat} {x : AV} {r : List (Nat × AV)} (hp : pl i = some (off, size)) (hs : x.cells.length = size) (hl : off + size ≤ cs.length) (ho : Ax.over cs off x.cells = cs') : afill pl cs ((i, x) :: r) = afill pl cs' r := by
  rw [afill, hp]
  show (if _ then _ else _) = _
  rw [if_pos ⟨hs, hl⟩, ho]
theorem over_mid (a b v d : List AV) (hv : v.length = b.length) {n : Nat} (hn : n = a.length) : Ax.over (a ++ (b ++ d)) n v = a ++ (v ++ d) := by
  subst hn
  rw [Ax.over, List.take_left, hv, List.drop_length_add_append, List.drop_left, List.append_assoc]
theorem made_fill {s : Stt} (h : s.Ok) (pl : Nat → Option (Nat × Nat)) (p0 : pl 0 = some (0, 1)) (p1 : pl 1 = some (1, 1)) (p2 : pl 2 = some (2, 1)) (p3 : pl 3 = some (3, 1)) (p4 : pl 4 = some (4, 1)) (p6 : pl 6 = some (6, 64)) (p7 : pl 7 = some (70, 64)) (z : List AV) (hz : z = zS.cs (.v (.slice none 0 0))) :
    afill pl z [(0, .v (.int .i64 s.id)), (1, .v (.int .i64 s.master)), (2, .v (.int .i64 s.cur)), (3, .v (.int .i64 s.vote)), (4, .v (.int .i64 s.cfg)), (6, .agg (flat s.own)), (7, .agg (flat s.epo))] = some (s.cs (.v (.slice none 0 0))) := by
  subst hz
  have ho := h.fo
  have he := h.fe
  have hz1 := zS_ok.fo
  have hz2 := zS_ok.fe
  obtain ⟨O, hO⟩ : ∃ O, O = flat zS.own := ⟨_, rfl⟩
  obtain ⟨E, hE⟩ : ∃ E, E = flat zS.epo := ⟨_, rfl⟩
  rw [← hO] at hz1
  rw [← hE] at hz2
  have e0 : zS.cs (.v (.slice none 0 0)) = [.v (.int .i64 0), .v (.int .i64 0), .v (.int .i64 0), .v (.int .i64 0), .v (.int .i64 0), .v (.slice none 0 0)] ++ (O ++ E) := by rw [hO, hE]; rfl
  rw [e0]
  clear hO hE e0
  have hl : ∀ a b cc d e : AV, ([a, b, cc, d, e, .v (.slice none 0 0)] ++ (O ++ E)).length = 134 := fun _ _ _ _ _ => by rw [List.length_append, List.length_append, hz1, hz2]; rfl
  rw [afill_one p0 rfl (by rw [hl]; decide) rfl, afill_one p1 rfl (by exact Nat.le_trans (by decide) (Nat.le_of_eq (hl _ _ _ _ _).symm)) rfl,
    afill_one p2 rfl (by exact Nat.le_trans (by decide) (Nat.le_of_eq (hl _ _ _ _ _).symm)) rfl, afill_one p3 rfl (by exact Nat.le_trans (by decide) (Nat.le_of_eq (hl _ _ _ _ _).symm)) rfl,
    afill_one p4 rfl (by exact Nat.le_trans (by decide) (Nat.le_of_eq (hl _ _ _ _ _).symm)) rfl]
  show afill pl ([.v (.int .i64 s.id), .v (.int .i64 s.master), .v (.int .i64 s.cur), .v (.int .i64 s.vote), .v (.int .i64 s.cfg), .v (.slice none 0 0)] ++ (O ++ E)) _ = _
  rw [afill_one (x := .agg (flat s.own)) (cs' := [.v (.int .i64 s.id), .v (.int .i64 s.master), .v (.int .i64 s.cur), .v (.int .i64 s.vote), .v (.int .i64 s.cfg), .v (.slice none 0 0)] ++ (flat s.own ++ E)) p6 ho (by rw [hl]; decide) (over_mid _ _ _ _ (ho.trans hz1.symm) rfl),
    afill_one (x := .agg (flat s.epo)) (cs' := [.v (.int .i64 s.id), .v (.int .i64 s.master), .v (.int .i64 s.cur), .v (.int .i64 s.vote), .v (.int .i64 s.cfg), .v (.slice none 0 0)] ++ (flat s.own ++ flat s.epo)) p7 he (by rw [List.length_append, List.length_append, ho, hz2]; exact Nat.le_refl 134) ?_]
  · rfl
  · have := over_mid ([.v (.int .i64 s.id), .v (.int .i64 s.master), .v (.int .i64 s.cur), .v (.int .i64 s.vote), .v (.int .i64 s.cfg), .v (.slice none 0 0)] ++ flat s.own) E (flat s.epo) [] (he.trans hz2.symm) (n := 70) (by rw [List.length_append, ho]; rfl)
    rw [List.append_nil, List.append_nil, List.append_assoc, List.append_assoc] at this
    exact this
theorem made_one (s : Stt) : ∀ p ∈ [((0 : Nat), AV.v (.int .i64 s.id)), (1, .v (.int .i64 s.master)), (2, .v (.int .i64 s.cur)), (3, .v (.int .i64 s.vote)), (4, .v (.int .i64 s.cfg)), (6, .agg (flat s.own)), (7, .agg (flat s.epo))], ∀ x ∈ p.2.cells, x.one = true := by
  simp only [List.forall_mem_cons]
  exact ⟨by simp [AV.cells, AV.one, Value.oneCell'], by simp [AV.cells, AV.one, Value.oneCell'], by simp [AV.cells, AV.one, Value.oneCell'], by simp [AV.cells, AV.one, Value.oneCell'], by simp [AV.cells, AV.one, Value.oneCell'], flat_ones _, flat_ones _, fun _ h => absurd h List.not_mem_nil⟩
structure StX (H : AHeap) (S : Nat) (y : AV) (s : Stt) : Prop where
  lt : S < H.next
  get : H.get S = some (.cells 41 (s.cs y))
  kn : Lst 75 (S + 1) H y s.known
set_option maxHeartbeats 4000000 in
theorem made_calls (H : AHeap) (s : Stt) (h : s.Ok) (hkl : s.known.length ≤ 100000) : ACalls Tryz.prog 13 [stA s] H (fun r H' => r = stA s ∧ H' = H) := by
  refine ACalls.quiet_keep ?_ (stA_plain _)
  have hcl := h.fc (vecA s.known)
  refine ACalls.of_body tok Tryz.func13 rfl Tryz.ntmps13 (Nat.le_of_ble_eq_true rfl) (fun base => ?_)
  refine rg fun K hK => ?_
  refine st (by exact SD.s rfl rfl rfl (by exact AStepD.box (cs := s.cs (vecA s.known)) rfl rfl (s.cs_one rfl))) <| st qP43 <| nt (hK _ _ ?_)
  clear hK K
  rw [zS33]
  refine rg fun K hK => ?_
  refine st qX21 <| st qX22 <| st qX213 <| st qX22 <| st qX214 <| st qX21 <| st qX22 <| st qX214 <| st qX213 <| st qX22 <| st qX214 <| st qX214 <| st qX22 <| st qX27 <| st qX21 <| st (by exact SD.s rfl rfl rfl (by exact AStepD.load_agg (cs := s.cs (vecA s.known)) (zs := flat s.own) tok rfl rfl rfl qP219 rfl (show _ = 64 from rfl) (by omega) (by show (s.tab.drop 0).take 64 = _; exact h.takeO))) <| st qX27 <| st (by exact SD.s rfl rfl rfl qP324) <| st (by exact SD.s rfl rfl rfl (by exact AStepD.load_agg (cs := s.cs (vecA s.known)) (zs := flat s.epo) tok rfl rfl rfl qP219 rfl (show _ = 64 from rfl) (by omega) (by show (s.tab.drop 64).take 64 = _; exact h.takeE))) <| st (by exact SD.s rfl rfl rfl (by exact AStepD.build (cs := s.cs (.v (.slice none 0 0))) tok rfl rfl rfl (by decide) (made_fill h _ rfl rfl rfl rfl rfl rfl rfl _ zS33) (made_one s))) <| st qP43 <| st0 (by exact ⟨rfl, rfl, (by exact AStepD.store' (k := 134) (cs := zS.cs (.v (.slice none 0 0))) (ys := s.cs (.v (.slice none 0 0))) (zs := s.cs (.v (.slice none 0 0))) tok rfl rfl (by rw [← zS33]; exact AHeap.get_new_same _ _) rfl rfl (Stt.cs_one _ rfl) rfl (h.fc _) rfl (by rw [zS_ok.fc]; omega) (over_all (by rw [zS_ok.fc, h.fc]; rfl)))⟩) <| nt (hK _ _ ?_)
  clear hK K
  refine AW.seq_k (fun K1 hK1 => ?_)
  refine rg fun K hK => ?_
  refine st qX28 <| st qX22 <| st qP224 <| st qP223 <| nt (hK _ _ ?_)
  clear hK K
  refine AW.block ?_
  refine AW.loop_at (ι := Nat × AV) (fun x => [(29, .v (.int .i64 (x.1 : Nat))), (28, .v (.int .i64 (s.known.length : Nat))), (27, vecA s.known), (3, .ptr (H.next + 1 + 1) 0), (2, .ptr (H.next + 1) 0)])
    (fun x H' => x.1 ≤ s.known.length ∧ StX H' (H.next + 1 + 1) x.2 { s with known := s.known.take x.1 } ∧ H'.get (H.next + 1) = some (.cells 41 (zS.cs (.v (.slice none 0 0)))) ∧ Keep H H') (fun x => s.known.length - x.1) (0, .v (.slice none 0 0)) qP217
    ⟨Nat.zero_le _, ⟨qX118, qP219, .nil⟩, qP219, qP24⟩ ?_
  rintro ⟨i, y⟩ H2 ⟨hi, hst, g1, hk⟩
  dsimp only at hi hst ⊢
  have hlt := hst.lt
  refine rg fun K hK => ?_
  refine st qX138 <| nt (hK _ _ ?_)
  clear hK K
  refine AW.seq_k (fun K2 hK2 => ?_)
  refine AW.cond _ rfl (fun hc => ?_) (fun hc => ?_)
  · (try simp only [Bool.or_eq_true, Bool.and_eq_true, Bool.or_eq_false_iff, Bool.and_eq_false_iff, Bool.not_eq_true', Bool.not_eq_false', decide_eq_true_eq, decide_eq_false_iff_not, Int.not_lt, Int.not_le] at hc)
    have hil : i < s.known.length := by omega
    refine AW.skip ?_
    refine hK2 _ _ ?_; try clear hK2 K2
    refine AW.seq_k (fun K3 hK3 => ?_)
    refine AW.block ?_
    refine rg fun K hK => ?_
    refine st (by exact SD.s rfl rfl rfl qX29) <| st (by exact SD.s rfl rfl rfl qX210) <| st qP43 <| st0 (by exact ⟨rfl, rfl, (by exact AStepD.store' tok rfl rfl qP219 qP21 (by first | exact one_cells (by with_reducible assumption) | exact qP21) qP213 rfl qP21 rfl qX119 qX122)⟩) <| nt (hK _ _ ?_)
    clear hK K
    have htk := take_next s.known i hil
    obtain ⟨l, hl⟩ : ∃ l, l = s.known.take i := ⟨_, rfl⟩
    have hll : l.length = i := by rw [hl, List.length_take]; omega
    rw [← hl] at htk hst
    generalize s.known[i] = k at htk
    have hnew : ∀ q, q ≠ H2.next → ((H2.new (.cells 64 (AV.ofV (tt 64).zero))).set H2.next (.cells 64 [.v (.int .i64 k.id), .v (.int .i64 k.master), .v (.int .i64 k.cfg)])).get q = H2.get q := fun q hq => by rw [AHeap.get_set_ne _ _ hq, AHeap.get_new_ne _ _ hq]
    have gk : ((H2.new (.cells 64 (AV.ofV (tt 64).zero))).set H2.next (.cells 64 [.v (.int .i64 k.id), .v (.int .i64 k.master), .v (.int .i64 k.cfg)])).get H2.next = some (.cells 64 (c k)) := AHeap.get_set_same _ _ _
    have hnx : ((H2.new (.cells 64 (AV.ofV (tt 64).zero))).set H2.next (.cells 64 [.v (.int .i64 k.id), .v (.int .i64 k.master), .v (.int .i64 k.cfg)])).next = H2.next + 1 := rfl
    show AW _ _ _ _ _ ((H2.new (.cells 64 (AV.ofV (tt 64).zero))).set H2.next (.cells 64 [.v (.int .i64 k.id), .v (.int .i64 k.master), .v (.int .i64 k.cfg)])) _
    generalize (H2.new (.cells 64 (AV.ofV (tt 64).zero))).set H2.next (.cells 64 [.v (.int .i64 k.id), .v (.int .i64 k.master), .v (.int .i64 k.cfg)]) = H3 at hnew gk hnx
    have hyk := hst.kn
    have hg := hst.get
    have hyk : Lst 75 (H.next + 1 + 1 + 1) H3 y l := Lst.keep (l := l) hyk (fun D hD hDn _ => hnew D (by omega)) (by omega)
    have hg : H3.get (H.next + 1 + 1) = some (.cells 41 (({ s with known := l } : Stt).cs y)) := (hnew _ (by omega)).trans hg
    have g3 : H3.get (H.next + 1) = some (.cells 41 (zS.cs (.v (.slice none 0 0)))) := (hnew _ (by omega)).trans g1
    have hk3 : Keep H H3 := ⟨by have := hk.1; omega, fun q hq => (hnew q (by omega)).trans (hk.2 q hq)⟩
    have hcl5 : (({ s with known := l } : Stt).cs y).length = 134 := Stt.Ok.fc (s := { s with known := l }) ⟨h.o, h.e⟩ y
    have hy1 := hyk.one
    have hap := hyk.app (by omega) (m := [k]) (n := (l ++ [k]).length) (by simp) (zs := flat (l ++ [k])) rfl
    refine AW.region ?_
    refine st qX28 <| st (by exact SD.s rfl rfl rfl (by exact AStepD.load_one tok rfl rfl rfl rfl hg rfl rfl)) <| st (by exact SD.s rfl rfl rfl (by exact AStepD.load_agg (cs := c k) (zs := c k) tok rfl rfl rfl gk rfl (show _ = 3 from rfl) (Nat.le_refl _) rfl)) <| st (by exact SD.s rfl rfl rfl (by exact AStepD.vec_flat (l := [k]) (AStepD.buildSlice1 tok rfl rfl rfl rfl (show _ = 3 from rfl) qP21 qP21 rfl (by decide) qP213) rfl rfl rfl)) <| st (by exact SD.s rfl rfl rfl (by exact AStepD.append_lst (bk := 64) (l := l) (y := y) (b := H.next + 1 + 1 + 1) (m := (l ++ [k]).length) tok rfl rfl hyk rfl rfl rfl rfl rfl rfl (show _ = 3 from rfl) rfl rfl Ax.Src.vec rfl Nat.zero_lt_one (flat_ones _) (by simp; omega) (by simp; omega) (by simp) (flat_append l [k]).symm)) <| st qX28 <| st0 (by exact ⟨rfl, rfl, (by exact AStepD.store' (k := 1) (cs := ({ s with known := l } : Stt).cs y) (ys := [.sl H3.next 0 (l ++ [k]).length 3]) (zs := ({ s with known := l ++ [k] } : Stt).cs (.sl H3.next 0 (l ++ [k]).length 3)) tok rfl rfl qP219 rfl rfl qP37 rfl rfl rfl (by rw [hcl5]; omega) rfl)⟩) <| AL.nil ?_
    refine hK3 _ _ ?_; try clear hK3 K3
    refine AW.region ?_
    refine st (by exact SD.s rfl rfl rfl (by exact AStepD.add (r := ((i + 1 : Nat) : Int)) rfl rfl rfl (IntWalk.i64_in _ (by omega)))) <| st qP223 <| AL.nil ?_
    have hne : ∀ q, q < H.next + 1 + 1 → (((H3.new (.cells 75 (flat (l ++ [k])))).delv y).set (H.next + 1 + 1) (.cells 41 (({ s with known := l ++ [k] } : Stt).cs (.sl H3.next 0 (l ++ [k]).length 3)))).get q = H3.get q := fun q hq => by
      rw [AHeap.get_set_ne _ _ (by omega), z9 _ (hyk.lab_ne (by omega)), AHeap.get_new_ne _ _ (by omega)]
    refine ⟨(i + 1, .sl H3.next 0 (l ++ [k]).length 3), by show s.known.length - (i + 1) < s.known.length - i; omega, qP217, hil, ?_, (hne _ (by omega)).trans g3, ?_⟩
    · dsimp only
      rw [htk]
      refine ⟨?_, AHeap.get_set_same _ _ _, ?_⟩
      · simp only [za, zd, zc]; omega
      · exact Lst.keep (l := l ++ [k]) hap (fun D hD _ _ => AHeap.get_set_ne _ _ (by omega)) (Nat.le_refl _)
    · exact ⟨by have := hk3.1; simp only [za, zd, zc]; omega, fun q hq => (hne q (by omega)).trans (hk3.2 q hq)⟩
  (try simp only [Bool.or_eq_true, Bool.and_eq_true, Bool.or_eq_false_iff, Bool.and_eq_false_iff, Bool.not_eq_true', Bool.not_eq_false', decide_eq_true_eq, decide_eq_false_iff_not, Int.not_lt, Int.not_le] at hc)
  obtain rfl : i = s.known.length := by omega
  rw [List.take_length] at hst
  refine AW.exit ?_
  refine hK1 _ _ ?_; try clear hK1 K1 hK2 K2
  have hlb : Lst 75 (H.next + 1 + 1 + 1) H2 y s.known := hst.kn
  refine AW.vec_cell (X := H.next + 1 + 1) (b := H.next + 1 + 1 + 1) (pre := [.v (.int .i64 s.id), .v (.int .i64 s.master), .v (.int .i64 s.cur), .v (.int .i64 s.vote), .v (.int .i64 s.cfg)]) (post := s.tab) hst.get hlb (by omega) ?_
  have g3 : ((H2.delv y).set (H.next + 1 + 1) (.cells 41 (s.cs (vecA s.known)))).get (H.next + 1) = some (.cells 41 (zS.cs (.v (.slice none 0 0)))) := by
    rw [AHeap.get_set_ne _ _ (by omega), AHeap.delv_get _ (hlb.lab_ne (by omega))]; exact g1
  have g4 : ((H2.delv y).set (H.next + 1 + 1) (.cells 41 (s.cs (vecA s.known)))).get (H.next + 1 + 1) = some (.cells 41 (s.cs (vecA s.known))) := AHeap.get_set_same _ _ _
  have hkp3 : Keep H ((H2.delv y).set (H.next + 1 + 1) (.cells 41 (s.cs (vecA s.known)))) := ⟨by rw [za, zd]; exact hk.1, fun q hq => by rw [AHeap.get_set_ne _ _ (by omega), AHeap.delv_get _ (hlb.lab_ne (by omega))]; exact hk.2 q hq⟩
  show AW _ _ _ _ _ ((H2.delv y).set (H.next + 1 + 1) (.cells 41 (s.cs (vecA s.known)))) _
  generalize (H2.delv y).set (H.next + 1 + 1) (.cells 41 (s.cs (vecA s.known))) = H3 at g3 g4 hkp3
  refine rg fun K hK => ?_
  refine st (by exact SD.s rfl rfl rfl (by exact AStepD.load_agg (cs := s.cs (vecA s.known)) (zs := s.cs (vecA s.known)) tok rfl rfl rfl g4 rfl (show _ = 134 from rfl) (by omega) qP42)) <| st0 (by exact ⟨rfl, rfl, (by exact AStepD.store' (k := 134) (cs := zS.cs (.v (.slice none 0 0))) (ys := s.cs (vecA s.known)) (zs := s.cs (vecA s.known)) tok rfl rfl g3 rfl rfl (Stt.cs_one _ rfl) rfl hcl rfl (by rw [zS_ok.fc]; omega) (over_all (by rw [zS_ok.fc, hcl]; rfl)))⟩) <| nt (hK _ _ ?_)
  clear hK K
  refine AW.ret (RetQ.mk (.inr rfl) (retA_agg (cs := s.cs (vecA s.known)) (zs := s.cs (vecA s.known)) rfl rfl rfl (AHeap.get_set_same _ _ _) rfl (show _ = 134 from rfl) (by omega) qP42 retA_nil) ⟨rfl, ?_⟩)
  exact hkp3.set (by omega)
end Go.Proofs.YtcomjodfkcnjhaaGreatDoor
