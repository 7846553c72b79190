/- Walks: states compared, the document's example, the anchor. -/
import Derived.Test.YtcomjodfkcnjhaaGreatDoorCP2
import Derived.Test.YtcomjodfkcnjhaaGreatDoorCE4
set_option linter.unusedSimpArgs false
set_option linter.unusedVariables false
namespace Go.Proofs.YtcomjodfkcnjhaaGreatDoor
open Go.Ax
open Cel (c)
theorem qU11 {p : Prop} (h : p := by (conv => lhs; whnf); all_goals exact rfl) : p := h
theorem qU12 {p : Prop} (h : p := by simp only [Nat.reduceAdd]; exact rfl) : p := h
theorem qU13 {p : Prop} (h : p := by first | omega | (simp only [za, zb, zc, zd]; omega)) : p := h
theorem qU14 {p : Prop} (h : p := by first | with_reducible assumption | exact rfl) : p := h
theorem qU15 {p : Prop} (h : p := by first | exact AStepD.neq rfl rfl rfl | exact AStepD.str_neq rfl rfl rfl | exact (AStepD.ptr_nil tok (.inl ⟨_, _, rfl⟩) rfl rfl rfl).2 rfl | exact (AStepD.nil_nil tok rfl rfl rfl rfl).2 rfl | exact (AStepD.bool_eq tok rfl rfl rfl rfl).2 rfl | exact (AStepD.ptr_same tok rfl rfl rfl rfl rfl).2 rfl | exact (AStepD.iface_nil tok rfl rfl rfl rfl).2 rfl | exact (AStepD.nilIface_nil tok rfl rfl rfl rfl).2 rfl) : p := h
theorem qU16 {p : Prop} (h : p := by intro h; first | (rw [h]; done) | (rw [h]; rfl) | (simp [h]; done) | (simp_all; done) | exact guard_true h) : p := h
theorem qU17 {p : Prop} (h : p := by first | exact IsSl.vec | exact IsSl.sl | exact IsSl.slc | exact IsSl.nil | with_reducible assumption) : p := h
theorem qU18 {p : Prop} (h : p := by repeat' (first | exact Keep.refl _ | apply Keep.new | apply Keep.set | apply Keep.del | (first | omega | (simp only [za, zb, zc]; omega)))) : p := h
theorem qU19 {p : Prop} (h : p := by (conv => lhs; whnf); all_goals first | exact rfl | (simp; done) | (simp; omega)) : p := h
theorem qU110 {p : Prop} (h : p := by (try simp only [za, zb, zc, zd, ne_eq]); omega) : p := h
theorem qU111 {p : Prop} (h : p := by first | exact rfl | exact (Int.toNat_of_nonneg (by omega)).symm) : p := h
theorem qU112 {p : Prop} (h : p := by first | omega | (simp; done) | (simp; omega) | (simp only [over, List.length_append, List.length_take, List.length_drop, *]; omega) | (simp_all; done) | (simp_all; omega)) : p := h
theorem qU113 {p : Prop} (h : p := by first | (simp only [Nat.zero_add, Nat.zero_mul, Nat.sub_zero, Nat.add_zero]; exact rfl) | exact rfl) : p := h
theorem qU114 {p : Prop} (h : p := by first | exact Nat.le_of_ble_eq_true rfl | (simp; done) | (simp; omega) | (simp_all; omega)) : p := h
theorem qU115 {p : Prop} (h : p := by first | with_reducible assumption | (simp only [List.take_succ_cons, List.take_zero, List.drop_succ_cons, List.drop_zero]; exact rfl) | exact rfl) : p := h
theorem qU116 {p : Prop} (h : p := by first | with_reducible assumption | exact Cel.one _ | exact flat_ones _ | exact ones_nil | (simp only [List.forall_mem_cons, List.not_mem_nil, false_implies, implies_true, and_true, one_v, one_ptr, one_ip, one_sl, one_slc, one_vec, one_map, one_func, one_iface, Value.oneCell', *]; done) | (simp [AV.one, Value.oneCell', *]; done)) : p := h
theorem qU117 {p : Prop} (h : p := by first | ((with_reducible refine over_all ?_); exact rfl) | (simp only [over, List.take_succ_cons, List.take_zero, List.drop_succ_cons, List.drop_zero, List.length_cons, List.length_nil, List.nil_append, List.cons_append, Nat.reduceAdd, Nat.zero_add, List.drop_nil, List.append_nil]; exact rfl) | conv => lhs; whnf) : p := h
theorem qU118 {p : Prop} (h : p := by repeat' (first | exact Keep.refl _ | with_reducible assumption | apply Keep.new | apply Keep.set | apply Keep.del | (first | omega | (simp only [za, zb, zc]; omega)))) : p := h
theorem qU119 {p : Prop} (h : p := by exact AStepD.assign' rfl qU11) : p := h
theorem qU120 {p : Prop} (h : p := by first | exact Nat.zero_add 0 | exact (show _ + 0 = _ from qU12) | exact (show _ + 0 = _ + 0 from rfl) | exact rfl) : p := h
theorem qU121 {p : Prop} (h : p := by first | with_reducible assumption | (simp (disch := (first | omega | (exact Lst.lab_ne (by with_reducible assumption) qU13) | (exact Lst.lab_new (by with_reducible assumption) qU13) | (refine id ?_; simp only [za, zb, zc, zd]; done) | (simp only [za, zb, zc, zd]; omega))) only [z1, z2, z3, z4, z5, z6, z7, z8, z9, ne_eq, *]; done) | (simp (disch := (first | omega | (exact Lst.lab_ne (by with_reducible assumption) qU13) | (exact Lst.lab_new (by with_reducible assumption) qU13) | (refine id ?_; simp only [za, zb, zc, zd]; done) | (simp only [za, zb, zc, zd]; omega))) only [z1, z2, z3, z4, z5, z6, z7, z8, z9, ne_eq, *]; exact rfl)) : p := h
theorem qU122 {p : Prop} (h : p := by exact AStepD.move' rfl qU11) : p := h
theorem qU123 {p : Prop} (h : p := by first | exact Nat.zero_add 1 | exact (show _ + 1 = _ from qU12) | exact (show _ + 1 = _ + 1 from rfl) | exact rfl) : p := h
theorem qU124 {p : Prop} (h : p := by exact (fun hb => by (repeat (first | apply UW.yes rfl (gpf hb) | apply UW.no)); exact UW.nil qU15)) : p := h
theorem qU125 {p : Prop} (h : p := by exact (fun _ hb => by (repeat (first | apply UW.yes rfl (gpf hb) | apply UW.no)); exact UW.nil qU15)) : p := h
theorem qU126 {p : Prop} (h : p := by first | exact AStepD.pick_true' rfl rfl qU11 | exact AStepD.pick_false' rfl rfl qU11 | exact AStepD.and rfl _ _ _ rfl rfl qU16 rfl | exact AStepD.and' rfl _ _ rfl rfl rfl | exact AStepD.or rfl _ _ _ rfl rfl rfl qU16 | exact AStepD.or' rfl _ _ rfl rfl rfl) : p := h
theorem qU127 {p : Prop} (h : p := by first | exact Nat.zero_add 2 | exact (show _ + 2 = _ from qU12) | exact (show _ + 2 = _ + 2 from rfl) | exact rfl) : p := h
theorem qU128 {p : Prop} (h : p := by first | exact Nat.zero_add 6 | exact (show _ + 6 = _ from qU12) | exact (show _ + 6 = _ + 6 from rfl) | exact rfl) : p := h
theorem qU129 {p : Prop} (h : p := by first | exact Nat.zero_add 5 | exact (show _ + 5 = _ from qU12) | exact (show _ + 5 = _ + 5 from rfl) | exact rfl) : p := h
theorem qU130 {p : Prop} (h : p := by first | exact AStepD.len_str tok rfl rfl rfl rfl | exact AStepD.len_sl tok rfl qU11 qU17 rfl rfl | exact AStepD.len_arr tok rfl rfl rfl) : p := h
theorem qU131 {p : Prop} (h : p := by repeat' (first | exact SubT.nil _ | refine SubT.cons_eq qU19 ?_)) : p := h
theorem qU132 {p : Prop} (h : p := by first | exact AStepD.indexAddr_flat tok rfl rfl rfl rfl rfl rfl rfl (show _ = 3 from rfl) rfl qU111 qU112 | exact AStepD.indexAddr_vec' tok rfl rfl rfl rfl rfl rfl (show _ = 3 from rfl) qU111 qU112 | exact AStepD.indexAddr_sl' tok rfl rfl rfl rfl rfl rfl (show _ = 3 from rfl) qU111 qU112 qU113 | exact AStepD.indexAddr_arr' tok rfl rfl rfl rfl rfl rfl (show _ = 3 from rfl) qU111 qU112 qU113) : p := h
theorem qU133 {p : Prop} (h : p := by exact SD.s rfl rfl rfl qU119) : p := h
theorem qU134 {p : Prop} (h : p := by first | exact AStepD.fieldAddr' tok rfl rfl rfl rfl rfl rfl rfl qU120 | exact AStepD.fieldAddr_ip' tok rfl rfl rfl rfl rfl rfl rfl List.drop_zero) : p := h
theorem qU135 {p : Prop} (h : p := by first | exact AStepD.load_one tok rfl rfl rfl rfl qU121 rfl qU14 | exact AStepD.load_one_ip tok rfl rfl rfl rfl rfl qU14) : p := h
theorem qU136 {p : Prop} (h : p := by exact SD.s rfl rfl rfl qU122) : p := h
theorem qU137 {p : Prop} (h : p := by first | exact AStepD.fieldAddr' tok rfl rfl rfl rfl rfl rfl rfl qU123 | exact AStepD.fieldAddr_ip' tok rfl rfl rfl rfl rfl rfl rfl (show List.drop 1 _ = _ from rfl)) : p := h
theorem qU138 {p : Prop} (h : p := by first | exact GW.yes rfl rfl rfl rfl rfl rfl rfl qU15 | exact GW.no rfl rfl rfl rfl rfl rfl rfl | exact GW.none rfl rfl rfl rfl rfl | exact GW.may rfl rfl rfl rfl rfl rfl qU124 | exact GW.may2 rfl rfl rfl rfl rfl rfl qU125) : p := h
theorem qU139 {p : Prop} (h : p := by exact SD.s rfl rfl rfl qU126) : p := h
theorem qU140 {p : Prop} (h : p := by first | exact AStepD.fieldAddr' tok rfl rfl rfl rfl rfl rfl rfl qU127 | exact AStepD.fieldAddr_ip' tok rfl rfl rfl rfl rfl rfl rfl (show List.drop 2 _ = _ from rfl)) : p := h
theorem qU141 {p : Prop} (h : p := by first | exact AStepD.fieldAddr' tok rfl rfl rfl rfl rfl rfl rfl qU128 | exact AStepD.fieldAddr_ip' tok rfl rfl rfl rfl rfl rfl rfl (show List.drop 6 _ = _ from rfl)) : p := h
theorem qU142 {p : Prop} (h : p := by first | exact AStepD.fieldAddr' tok rfl rfl rfl rfl rfl rfl rfl qU129 | exact AStepD.fieldAddr_ip' tok rfl rfl rfl rfl rfl rfl rfl (show List.drop 5 _ = _ from rfl)) : p := h
theorem qU143 {p : Prop} (h : p := by exact (fun hb => by (repeat (first | apply UW.yes rfl (gpf hb) | apply UW.no)); exact UW.nil qU130)) : p := h
theorem qU144 {p : Prop} (h : p := by exact (fun _ hb => by (repeat (first | apply UW.yes rfl (gpf hb) | apply UW.no)); exact UW.nil qU130)) : p := h
theorem qU145 {p : Prop} (h : p := by first | exact AStepD.load_cel_ip tok rfl rfl rfl rfl (show _ = 3 from rfl) rfl | exact AStepD.load_agg tok rfl rfl rfl qU121 rfl (show _ = 3 from rfl) qU114 qU115 | exact AStepD.load_agg_ip tok rfl rfl rfl rfl (show _ = 3 from rfl) qU114 qU115) : p := h
theorem qU146 {p : Prop} (h : p := by exact SD.s rfl rfl rfl qU134) : p := h
theorem qU147 {p : Prop} (h : p := by exact SD.s rfl rfl rfl qU135) : p := h
theorem qU148 {p : Prop} (h : p := by exact (fun hb => by (repeat (first | apply UW.yes rfl (gpf hb) | apply UW.no)); exact UW.nil qU137)) : p := h
theorem qU149 {p : Prop} (h : p := by exact (fun _ hb => by (repeat (first | apply UW.yes rfl (gpf hb) | apply UW.no)); exact UW.nil qU137)) : p := h
theorem qU150 {p : Prop} (h : p := by exact (fun hb => by (repeat (first | apply UW.yes rfl (gpf hb) | apply UW.no)); exact UW.nil qU135)) : p := h
theorem qU151 {p : Prop} (h : p := by exact (fun _ hb => by (repeat (first | apply UW.yes rfl (gpf hb) | apply UW.no)); exact UW.nil qU135)) : p := h
theorem qU152 {p : Prop} (h : p := by exact (fun hb => by (repeat (first | apply UW.yes rfl (gpf hb) | apply UW.no)); exact UW.nil qU140)) : p := h
theorem qU153 {p : Prop} (h : p := by exact (fun _ hb => by (repeat (first | apply UW.yes rfl (gpf hb) | apply UW.no)); exact UW.nil qU140)) : p := h
theorem qU154 {p : Prop} (h : p := by exact (fun hb => by (repeat (first | apply UW.yes rfl (gpf hb) | apply UW.no)); exact UW.nil qU141)) : p := h
theorem qU155 {p : Prop} (h : p := by exact (fun _ hb => by (repeat (first | apply UW.yes rfl (gpf hb) | apply UW.no)); exact UW.nil qU141)) : p := h
theorem qU156 {p : Prop} (h : p := by exact (fun hb => by (repeat (first | apply UW.yes rfl (gpf hb) | apply UW.no)); exact UW.nil qU142)) : p := h
theorem qU157 {p : Prop} (h : p := by exact (fun _ hb => by (repeat (first | apply UW.yes rfl (gpf hb) | apply UW.no)); exact UW.nil qU142)) : p := h
theorem qU158 {p : Prop} (h : p := by first | exact GW.yes rfl rfl rfl rfl rfl rfl rfl qU130 | exact GW.no rfl rfl rfl rfl rfl rfl rfl | exact GW.none rfl rfl rfl rfl rfl | exact GW.may rfl rfl rfl rfl rfl rfl qU143 | exact GW.may2 rfl rfl rfl rfl rfl rfl qU144) : p := h
theorem qU159 {p : Prop} (h : p := by first | exact GW.yes rfl rfl rfl rfl rfl rfl rfl qU137 | exact GW.no rfl rfl rfl rfl rfl rfl rfl | exact GW.none rfl rfl rfl rfl rfl | exact GW.may rfl rfl rfl rfl rfl rfl qU148 | exact GW.may2 rfl rfl rfl rfl rfl rfl qU149) : p := h
theorem qU160 {p : Prop} (h : p := by first | exact GW.yes rfl rfl rfl rfl rfl rfl rfl qU135 | exact GW.no rfl rfl rfl rfl rfl rfl rfl | exact GW.none rfl rfl rfl rfl rfl | exact GW.may rfl rfl rfl rfl rfl rfl qU150 | exact GW.may2 rfl rfl rfl rfl rfl rfl qU151) : p := h
theorem qU161 {p : Prop} (h : p := by first | exact GW.yes rfl rfl rfl rfl rfl rfl rfl qU140 | exact GW.no rfl rfl rfl rfl rfl rfl rfl | exact GW.none rfl rfl rfl rfl rfl | exact GW.may rfl rfl rfl rfl rfl rfl qU152 | exact GW.may2 rfl rfl rfl rfl rfl rfl qU153) : p := h
theorem qU162 {p : Prop} (h : p := by first | exact GW.yes rfl rfl rfl rfl rfl rfl rfl qU141 | exact GW.no rfl rfl rfl rfl rfl rfl rfl | exact GW.none rfl rfl rfl rfl rfl | exact GW.may rfl rfl rfl rfl rfl rfl qU154 | exact GW.may2 rfl rfl rfl rfl rfl rfl qU155) : p := h
theorem qU163 {p : Prop} (h : p := by first | exact GW.yes rfl rfl rfl rfl rfl rfl rfl qU142 | exact GW.no rfl rfl rfl rfl rfl rfl rfl | exact GW.none rfl rfl rfl rfl rfl | exact GW.may rfl rfl rfl rfl rfl rfl qU156 | exact GW.may2 rfl rfl rfl rfl rfl rfl qU157) : p := h
set_option linter.unusedSimpArgs false
set_option linter.unusedVariables false
set_option maxRecDepth 20000
open Cel (c)

def sixB (a b : Stt) : Bool := (decide (a.id ≠ b.id) || decide (a.master ≠ b.master) || !decide ([a.cur, a.vote, a.cfg] = [b.cur, b.vote, b.cfg]) || !decide (a.own ++ a.epo = b.own ++ b.epo) || decide ((a.known.length : Int) ≠ (b.known.length : Int)))
theorem same_iff {a b : Stt} (oa : a.Ok) (ob : b.Ok) : a = b ↔ sixB a b = false ∧ ∀ (j : Nat) (h1 : j < a.known.length) (h2 : j < b.known.length), a.known[j] = b.known[j] := by
  simp only [sixB, Bool.or_eq_false_iff, decide_eq_false_iff_not, Bool.not_eq_false', decide_eq_true_eq, ne_eq, Decidable.not_not, List.cons.injEq, and_true]
  constructor
  · rintro rfl
    exact ⟨⟨⟨⟨⟨rfl, rfl⟩, rfl, rfl, rfl⟩, rfl⟩, rfl⟩, fun _ _ _ => rfl⟩
  · rintro ⟨⟨⟨⟨⟨h1, h2⟩, h3, h4, h5⟩, h6⟩, h7⟩, h8⟩
    have h9 := List.append_inj h6 (by rw [oa.o, ob.o])
    have h10 : a.known = b.known := List.ext_getElem (by omega) fun i q1 q2 => h8 i q1 q2
    cases a; cases b
    simp only at h1 h2 h3 h4 h5 h9 h10
    obtain ⟨h11, h12⟩ := h9
    subst h1 h2 h3 h4 h5 h10 h11 h12
    rfl
theorem tab_flat (s : Stt) : s.tab = flat (s.own ++ s.epo) := (flat_append _ _).symm
set_option maxHeartbeats 4000000 in
theorem same_calls (H : AHeap) (a b : Stt) (oa : a.Ok) (ob : b.Ok) : ACalls Tryz.prog 16 [stA a, stA b] H (fun r H' => r = .v (.bool (decide (a = b))) ∧ H' = H) := by
  refine ACalls.quiet_keep ?_ (.v _)
  have hca := oa.fc (vecA a.known)
  have hcb := ob.fc (vecA b.known)
  have hla : (a.own ++ a.epo).length = 128 := by rw [List.length_append, oa.o, oa.e]
  have hlb : (b.own ++ b.epo).length = 128 := by rw [List.length_append, ob.o, ob.e]
  refine ACalls.of_body tok Tryz.func16 rfl Tryz.ntmps16 (Nat.le_of_ble_eq_true rfl) (fun base => ?_)
  refine rg fun K hK => ?_
  refine st (by exact SD.s rfl rfl rfl (by exact AStepD.box (cs := a.cs (vecA a.known)) rfl rfl (a.cs_one rfl))) <| st (by exact SD.s rfl rfl rfl (by exact AStepD.box (cs := b.cs (vecA b.known)) rfl rfl (b.cs_one rfl))) <| st qU133 <| nt (hK _ _ ?_)
  clear hK K
  refine AW.seq_k (fun K1 hK1 => ?_)
  refine rg fun K hK => ?_
  refine st qU146 <| st qU147 <| st qU146 <| st qU147 <| st (by exact SD.s rfl rfl rfl qU15) <| st qU136 <| st (GW.p (l := [2]) qU159) <| st (GW.p (l := [13]) qU160) <| st (GW.p (l := [3]) qU159) <| st (GW.p (l := [15]) qU160) <| st (GW.p (l := [14, 16]) qU138) <| st qU139 <| st qU136 <| st (GW.p (l := [2]) qU161) <| st (GW.p (l := [20]) (by first | exact GW.yes rfl rfl rfl rfl rfl rfl rfl (by exact AStepD.load_agg (cs := a.cs (vecA a.known)) tok rfl rfl rfl qU121 rfl (show _ = 3 from rfl) (by omega) rfl) | exact GW.no rfl rfl rfl rfl rfl rfl rfl | exact GW.none rfl rfl rfl rfl rfl | exact GW.may rfl rfl rfl rfl rfl rfl (fun hb => by (repeat (first | apply UW.yes rfl (gpf hb) | apply UW.no)); exact UW.nil (by exact AStepD.load_agg (cs := a.cs (vecA a.known)) tok rfl rfl rfl qU121 rfl (show _ = 3 from rfl) (by omega) rfl)) | exact GW.may2 rfl rfl rfl rfl rfl rfl (fun _ hb => by (repeat (first | apply UW.yes rfl (gpf hb) | apply UW.no)); exact UW.nil (by exact AStepD.load_agg (cs := a.cs (vecA a.known)) tok rfl rfl rfl qU121 rfl (show _ = 3 from rfl) (by omega) rfl)))) <| st (GW.p (l := [3]) qU161) <| st (GW.p (l := [22]) (by first | exact GW.yes rfl rfl rfl rfl rfl rfl rfl (by exact AStepD.load_agg (cs := b.cs (vecA b.known)) tok rfl rfl rfl qU121 rfl (show _ = 3 from rfl) (by omega) rfl) | exact GW.no rfl rfl rfl rfl rfl rfl rfl | exact GW.none rfl rfl rfl rfl rfl | exact GW.may rfl rfl rfl rfl rfl rfl (fun hb => by (repeat (first | apply UW.yes rfl (gpf hb) | apply UW.no)); exact UW.nil (by exact AStepD.load_agg (cs := b.cs (vecA b.known)) tok rfl rfl rfl qU121 rfl (show _ = 3 from rfl) (by omega) rfl)) | exact GW.may2 rfl rfl rfl rfl rfl rfl (fun _ hb => by (repeat (first | apply UW.yes rfl (gpf hb) | apply UW.no)); exact UW.nil (by exact AStepD.load_agg (cs := b.cs (vecA b.known)) tok rfl rfl rfl qU121 rfl (show _ = 3 from rfl) (by omega) rfl)))) <| st (GW.p (l := [21, 23]) (by first | exact GW.yes rfl rfl rfl rfl rfl rfl rfl (by exact AStepD.ints_eq (xs := [a.cur, a.vote, a.cfg]) (ys := [b.cur, b.vote, b.cfg]) tok 3 .neq (.inr rfl) rfl rfl rfl rfl rfl (by kernel_rfl) (by kernel_rfl) rfl rfl (show _ = !decide _ from rfl)) | exact GW.no rfl rfl rfl rfl rfl rfl rfl | exact GW.none rfl rfl rfl rfl rfl | exact GW.may rfl rfl rfl rfl rfl rfl (fun hb => by (repeat (first | apply UW.yes rfl (gpf hb) | apply UW.no)); exact UW.nil (by exact AStepD.ints_eq (xs := [a.cur, a.vote, a.cfg]) (ys := [b.cur, b.vote, b.cfg]) tok 3 .neq (.inr rfl) rfl rfl rfl rfl rfl (by kernel_rfl) (by kernel_rfl) rfl rfl (show _ = !decide _ from rfl))) | exact GW.may2 rfl rfl rfl rfl rfl rfl (fun _ hb => by (repeat (first | apply UW.yes rfl (gpf hb) | apply UW.no)); exact UW.nil (by exact AStepD.ints_eq (xs := [a.cur, a.vote, a.cfg]) (ys := [b.cur, b.vote, b.cfg]) tok 3 .neq (.inr rfl) rfl rfl rfl rfl rfl (by kernel_rfl) (by kernel_rfl) rfl rfl (show _ = !decide _ from rfl))))) <| st qU139 <| st qU136 <| st (GW.p (l := [2]) qU162) <| st (GW.p (l := [27]) (by first | exact GW.yes rfl rfl rfl rfl rfl rfl rfl (by exact AStepD.load_agg (cs := a.cs (vecA a.known)) tok rfl rfl rfl qU121 rfl (show _ = 128 from rfl) (by omega) oa.takeT) | exact GW.no rfl rfl rfl rfl rfl rfl rfl | exact GW.none rfl rfl rfl rfl rfl | exact GW.may rfl rfl rfl rfl rfl rfl (fun hb => by (repeat (first | apply UW.yes rfl (gpf hb) | apply UW.no)); exact UW.nil (by exact AStepD.load_agg (cs := a.cs (vecA a.known)) tok rfl rfl rfl qU121 rfl (show _ = 128 from rfl) (by omega) oa.takeT)) | exact GW.may2 rfl rfl rfl rfl rfl rfl (fun _ hb => by (repeat (first | apply UW.yes rfl (gpf hb) | apply UW.no)); exact UW.nil (by exact AStepD.load_agg (cs := a.cs (vecA a.known)) tok rfl rfl rfl qU121 rfl (show _ = 128 from rfl) (by omega) oa.takeT)))) <| st (GW.p (l := [3]) qU162) <| st (GW.p (l := [29]) (by first | exact GW.yes rfl rfl rfl rfl rfl rfl rfl (by exact AStepD.load_agg (cs := b.cs (vecA b.known)) tok rfl rfl rfl qU121 rfl (show _ = 128 from rfl) (by omega) ob.takeT) | exact GW.no rfl rfl rfl rfl rfl rfl rfl | exact GW.none rfl rfl rfl rfl rfl | exact GW.may rfl rfl rfl rfl rfl rfl (fun hb => by (repeat (first | apply UW.yes rfl (gpf hb) | apply UW.no)); exact UW.nil (by exact AStepD.load_agg (cs := b.cs (vecA b.known)) tok rfl rfl rfl qU121 rfl (show _ = 128 from rfl) (by omega) ob.takeT)) | exact GW.may2 rfl rfl rfl rfl rfl rfl (fun _ hb => by (repeat (first | apply UW.yes rfl (gpf hb) | apply UW.no)); exact UW.nil (by exact AStepD.load_agg (cs := b.cs (vecA b.known)) tok rfl rfl rfl qU121 rfl (show _ = 128 from rfl) (by omega) ob.takeT)))) <| st (GW.p (l := [28, 30]) (by first | exact GW.yes rfl rfl rfl rfl rfl rfl rfl (by exact AStepD.ints_eq (xs := a.own ++ a.epo) (ys := b.own ++ b.epo) tok 4 .neq (.inr rfl) rfl (by rw [← tab_flat]; rfl) (by rw [← tab_flat]; rfl) rfl rfl (by kernel_rfl) (by kernel_rfl) (by rw [hla]; rfl) (by rw [hlb]; rfl) (show _ = !decide _ from rfl)) | exact GW.no rfl rfl rfl rfl rfl rfl rfl | exact GW.none rfl rfl rfl rfl rfl | exact GW.may rfl rfl rfl rfl rfl rfl (fun hb => by (repeat (first | apply UW.yes rfl (gpf hb) | apply UW.no)); exact UW.nil (by exact AStepD.ints_eq (xs := a.own ++ a.epo) (ys := b.own ++ b.epo) tok 4 .neq (.inr rfl) rfl (by rw [← tab_flat]; rfl) (by rw [← tab_flat]; rfl) rfl rfl (by kernel_rfl) (by kernel_rfl) (by rw [hla]; rfl) (by rw [hlb]; rfl) (show _ = !decide _ from rfl))) | exact GW.may2 rfl rfl rfl rfl rfl rfl (fun _ hb => by (repeat (first | apply UW.yes rfl (gpf hb) | apply UW.no)); exact UW.nil (by exact AStepD.ints_eq (xs := a.own ++ a.epo) (ys := b.own ++ b.epo) tok 4 .neq (.inr rfl) rfl (by rw [← tab_flat]; rfl) (by rw [← tab_flat]; rfl) rfl rfl (by kernel_rfl) (by kernel_rfl) (by rw [hla]; rfl) (by rw [hlb]; rfl) (show _ = !decide _ from rfl))))) <| st qU139 <| st qU136 <| st (GW.p (l := [2]) qU163) <| st (GW.p (l := [34]) qU160) <| st (GW.p (l := [35]) qU158) <| st (GW.p (l := [3]) qU163) <| st (GW.p (l := [37]) qU160) <| st (GW.p (l := [38]) qU158) <| st (GW.p (l := [36, 39]) qU138) <| st qU139 <| nt (hK _ _ ?_)
  clear hK K
  refine AW.cond _ rfl (fun hc => ?_) (fun hc => ?_)
  · have hc : sixB a b = true := hc
    refine rg fun K hK => ?_
    refine st qU133 <| nt (hK _ _ ?_)
    clear hK K
    refine AW.ret (RetQ.mk (.inr rfl) (retA_tmp rfl qU11 retA_nil) ⟨?_, qU18⟩)
    rw [decide_eq_false fun e => by rw [((same_iff oa ob).1 e).1] at hc; cases hc]; rfl
  have hc : sixB a b = false := hc
  have hkl : a.known.length = b.known.length := by
    have h1 := hc
    simp only [sixB, Bool.or_eq_false_iff, decide_eq_false_iff_not, ne_eq, Decidable.not_not] at h1
    omega
  refine AW.skip ?_
  refine hK1 _ _ ?_; try clear hK1 K1
  refine AW.seq_k (fun K2 hK2 => ?_)
  refine rg fun K hK => ?_
  refine st (by exact SD.s rfl rfl rfl qU142) <| st qU147 <| st (by exact SD.s rfl rfl rfl qU130) <| st qU136 <| nt (hK _ _ ?_)
  clear hK K
  refine AW.len (s := 43) (x := vecA a.known) (k := a.known.length) rfl .vec fun hlen => ?_
  have hlen : a.known.length ≤ 9223372036854775807 := hlen
  refine AW.block ?_
  refine AW.loop_at (ι := Nat) (fun i => [(45, .v (.int .i64 (i : Nat))), (44, .v (.int .i64 (a.known.length : Nat))), (43, vecA a.known), (3, .ptr (H.next + 1) 0)])
    (fun i H' => i ≤ a.known.length ∧ H'.get (H.next + 1) = some (.cells 34 (b.cs (vecA b.known))) ∧ (∀ (j : Nat) (h1 : j < a.known.length) (h2 : j < b.known.length), j < i → a.known[j] = b.known[j]) ∧ Keep H H' ∧ H.next + 1 < H'.next) (fun i => a.known.length - i) 0 qU131 ⟨Nat.zero_le _, qU121, fun _ _ _ h => absurd h (by omega), qU18, qU110⟩ ?_
  rintro i H2 ⟨hi, g1, hal, hkp, hn⟩
  refine rg fun K hK => ?_
  refine st (by exact SD.s rfl rfl rfl (by exact AStepD.lss rfl rfl rfl)) <| nt (hK _ _ ?_)
  clear hK K
  refine AW.seq_k (fun K3 hK3 => ?_)
  refine AW.cond _ rfl (fun hc => ?_) (fun hc => ?_)
  · (try simp only [Bool.or_eq_true, Bool.and_eq_true, Bool.or_eq_false_iff, Bool.and_eq_false_iff, Bool.not_eq_true', Bool.not_eq_false', decide_eq_true_eq, decide_eq_false_iff_not, Int.not_lt, Int.not_le] at hc)
    have hia : i < a.known.length := by omega
    have hib : i < b.known.length := by omega
    refine AW.skip ?_
    refine hK3 _ _ ?_; try clear hK3 K3
    refine AW.seq_k (fun K4 hK4 => ?_)
    refine AW.block ?_
    refine rg fun K hK => ?_
    refine st qU136 <| st (by exact SD.s rfl rfl rfl qU132) <| st (by exact SD.s rfl rfl rfl qU145) <| st (by exact SD.s rfl rfl rfl (by exact AStepD.alloc tok rfl rfl)) <| st qU133 <| st0 (by exact ⟨rfl, rfl, (by exact AStepD.store' tok rfl rfl qU121 qU11 (by first | exact one_cells (by with_reducible assumption) | exact qU11) qU116 rfl qU11 rfl qU114 qU117)⟩) <| nt (hK _ _ ?_)
    clear hK K
    refine AW.seq_k (fun K hK => ?_)
    apply AW.draw mixed [_, _, _, _, _, _, _] [] [_] [(0, 0), (1, 0), (2, 0), (3, 0), (4, 0), (5, 0), (6, 0)] rfl rfl rfl (by simp only [List.getD_cons_zero, List.getD_cons_succ]; all_goals apply Eq.refl)
    · refine ⟨?_, ?_, ?_, ?_, ?_, ?_, ?_⟩
      · refine Ob.mk _ [6] 0 rfl rfl (restr_cons qU11 restr_nil) rfl ?_
        simp only [List.getD_cons_zero, List.getD_cons_succ]
        exact GStep.plain rfl qU145
      · refine Ob.mk _ [3] 0 rfl rfl (restr_cons qU11 restr_nil) rfl ?_
        simp only [List.getD_cons_zero, List.getD_cons_succ]
        exact GStep.plain rfl qU142
      · refine Ob.mk _ [51] 0 rfl rfl (restr_cons qU11 restr_nil) rfl ?_
        simp only [List.getD_cons_zero, List.getD_cons_succ]
        exact GStep.plain rfl (by exact AStepD.load_one (cs := b.cs (vecA b.known)) tok rfl rfl rfl rfl qU121 rfl (show _ = some (vecA b.known) from rfl))
      · refine Ob.mk _ [5] 0 rfl rfl (restr_cons qU11 restr_nil) rfl ?_
        simp only [List.getD_cons_zero, List.getD_cons_succ]
        exact GStep.plain rfl qU122
      · refine Ob.mk _ [52, 53] 0 rfl rfl (restr_cons qU11 (restr_cons qU11 restr_nil)) rfl ?_
        simp only [List.getD_cons_zero, List.getD_cons_succ]
        exact GStep.plain rfl (by exact AStepD.indexAddr_flat (i := i) tok rfl rfl rfl rfl rfl rfl rfl rfl rfl rfl hib)
      · refine Ob.mk _ [54] 0 rfl rfl (restr_cons qU11 restr_nil) rfl ?_
        simp only [List.getD_cons_zero, List.getD_cons_succ]
        exact GStep.plain rfl qU145
      · refine Ob.mk _ [50, 55] 0 rfl rfl (restr_cons qU11 (restr_cons qU11 restr_nil)) rfl ?_
        simp only [List.getD_cons_zero, List.getD_cons_succ]
        exact GStep.plain rfl (by exact AStepD.ints_eq (xs := [(a.known[i]).id, (a.known[i]).master, (a.known[i]).cfg]) (ys := [(b.known[i]).id, (b.known[i]).master, (b.known[i]).cfg]) tok 3 .neq (.inr rfl) rfl rfl rfl rfl rfl (by kernel_rfl) (by kernel_rfl) rfl rfl (show _ = !decide _ from rfl))
    refine hK _ _ ?_; clear hK K
    refine AW.frame (by simp only [frameAt, putA]; all_goals exact rfl) (by simp only [List.length_cons, List.length_nil, Nat.zero_add, Nat.reduceAdd, List.getD_cons_zero, List.getD_cons_succ]; all_goals apply Eq.refl) ?_
    have hkq : ∀ p q : Kn, decide ([p.id, p.master, p.cfg] = [q.id, q.master, q.cfg]) = decide (p = q) := fun p q => decide_eq_decide.2 (by
      simp only [List.cons.injEq, and_true]
      exact ⟨fun ⟨h1, h2, h3⟩ => by cases p; cases q; simp only at h1 h2 h3; subst h1 h2 h3; rfl, fun h => by rw [h]; exact ⟨rfl, rfl, rfl⟩⟩)
    rw [hkq]
    refine AW.cond _ rfl (fun hc => ?_) (fun hc => ?_)
    · have hne : a.known[i] ≠ b.known[i] := by simpa using hc
      refine rg fun K hK => ?_
      refine st qU133 <| nt (hK _ _ ?_)
      clear hK K
      refine AW.ret (RetQ.mk (.inr rfl) (retA_tmp rfl qU11 retA_nil) ⟨?_, qU118⟩)
      rw [decide_eq_false fun e => hne (((same_iff oa ob).1 e).2 i hia hib)]; rfl
    · have heq : a.known[i] = b.known[i] := by simpa using hc
      refine AW.skip ?_
      refine hK4 _ _ ?_; try clear hK4 K4
      refine AW.region ?_
      refine st (by exact SD.s rfl rfl rfl (by first | exact AStepD.add rfl rfl rfl (by first | exact IntWalk.i64_in _ (by omega) | exact IntWalk.i64_in _ (by simp only [Bool.or_eq_true, Bool.and_eq_true, Bool.or_eq_false_iff, Bool.and_eq_false_iff, Bool.not_eq_true', Bool.not_eq_false', decide_eq_true_eq, decide_eq_false_iff_not, Int.not_lt, Int.not_le, beq_iff_eq] at *; omega) | exact rfl) | exact AStepD.str_add rfl rfl rfl (by omega))) <| st qU136 <| AL.nil ?_
      refine ⟨i + 1, by omega, qU131, hia, qU121, fun j h1 h2 hj => ?_, qU118, qU110⟩
      rcases Nat.lt_succ_iff_lt_or_eq.1 hj with h | rfl
      · exact hal j h1 h2 h
      · exact heq
  (try simp only [Bool.or_eq_true, Bool.and_eq_true, Bool.or_eq_false_iff, Bool.and_eq_false_iff, Bool.not_eq_true', Bool.not_eq_false', decide_eq_true_eq, decide_eq_false_iff_not, Int.not_lt, Int.not_le] at hc)
  refine AW.exit ?_
  refine hK2 _ _ ?_; try clear hK2 K2 hK3 K3
  refine rg fun K hK => ?_
  refine st qU133 <| nt (hK _ _ ?_)
  clear hK K
  refine AW.ret (RetQ.mk (.inr rfl) (retA_tmp rfl qU11 retA_nil) ⟨?_, hkp⟩)
  rw [decide_eq_true ((same_iff oa ob).2 ⟨by assumption, fun j h1 h2 => hal j h1 h2 (by omega)⟩)]; rfl
end Go.Proofs.YtcomjodfkcnjhaaGreatDoor

/- Walks: the document's example, the anchor. -/

namespace Go.Proofs.YtcomjodfkcnjhaaGreatDoor
open Go.Ax
open Cel (c)
set_option linter.unusedSimpArgs false
set_option linter.unusedVariables false
set_option maxRecDepth 20000
open Cel (c)

theorem afill_cons {place : Nat → Option (Nat × Nat)} {cells : List AV} {i off size : Nat} {x : AV} {r : List (Nat × AV)} (h : place i = some (off, size)) (hl : x.cells.length = size) (hk : off + size ≤ cells.length) : afill place cells ((i, x) :: r) = afill place (Ax.over cells off x.cells) r := by
  rw [afill, h]
  exact if_pos ⟨hl, hk⟩
theorem ex_one2 : ∀ p ∈ [((0 : Nat), AV.v (.int .i64 2))], ∀ x ∈ p.2.cells, x.one = true := by simp [AV.one, AV.cells, Value.oneCell']
end Go.Proofs.YtcomjodfkcnjhaaGreatDoor

/- Texts that are cut, plainly. -/

namespace Go.Proofs.YtcomjodfkcnjhaaGreatDoor
open Go.Ax
open Cel (c)
set_option linter.unusedSimpArgs false
set_option linter.unusedVariables false

end Go.Proofs.YtcomjodfkcnjhaaGreatDoor

/- Texts whose lines are swapped, plainly. -/

namespace Go.Proofs.YtcomjodfkcnjhaaGreatDoor
open Go.Ax
open Cel (c)
set_option linter.unusedSimpArgs false
set_option linter.unusedVariables false

inductive It where
  | kn (a : Kn)
  | pr (a : Int × Int)
def It.ok (s : Stt) : It → Prop
  | .kn k => k ∈ s.known
  | .pr p => p ∈ pairsG s.g
end Go.Proofs.YtcomjodfkcnjhaaGreatDoor

/- A text's lines, plainly: how many, how they end, how long. -/

namespace Go.Proofs.YtcomjodfkcnjhaaGreatDoor
open Go.Ax
open Cel (c)

def EndOk (l : List UInt8) : Prop := ∃ x c, l = x ++ [c] ∧ c ≠ 10 ∧ c ≠ 32
theorem EndOk.app {b : List UInt8} (a : List UInt8) (h : EndOk b) : EndOk (a ++ b) := by
  obtain ⟨x, c, rfl, h⟩ := h
  exact ⟨a ++ x, c, (List.append_assoc ..).symm, h⟩
/-! How long. -/
def sumL (l : List Nat) : Nat := l.foldr (· + ·) 0
theorem join_sum : ∀ (xs : List (List UInt8)), (Lib.join xs [32]).length ≤ sumL (xs.map fun x => x.length + 1)
  | [] => by simp [Lib.join_nil]
  | [x] => by rw [Lib.join_one]; simp [sumL]
  | x :: y :: r => by
    have ih := join_sum (y :: r)
    rw [join_cons, List.length_append, List.length_append, List.length_singleton]
    simp only [List.map_cons, sumL, List.foldr_cons] at ih ⊢
    omega
def cntB (f : Nat → Bool) : Nat → Nat
  | 0 => 0
  | n + 1 => cntB f n + if f (63 - n) then 1 else 0
def wid (l : List (Nat × Nat)) : Int := (l.map fun x => (x.2 : Int) - x.1 + 1).foldr (· + ·) 0
theorem segs_wid (f : Nat → Bool) : ∀ n, n ≤ 64 → wid (segs f n) = cntB f n
  | 0, _ => rfl
  | n + 1, h => by
    have ih := segs_wid f n (by omega)
    rw [segs, cntB]
    split
    · split
      · rename_i hs
        rw [hs] at ih
        split
        · simp only [wid, List.map_cons, List.foldr_cons] at ih ⊢; omega
        · simp only [wid, List.map_cons, List.foldr_cons] at ih ⊢; omega
      · rename_i hs
        rw [hs] at ih
        simp only [wid, List.map_nil, List.map_cons, List.foldr_cons, List.foldr_nil] at ih ⊢; omega
    · omega
theorem sum_wid : ∀ (l : List (Nat × Nat)), (∀ x ∈ l, x.1 ≤ x.2 ∧ x.2 < 64) → (sumL ((l.map segT).map fun x => x.length + 1) : Int) ≤ 3 * wid l
  | [], _ => by simp [sumL, wid]
  | x :: l, h => by
    have ih := sum_wid l fun y hy => h y (List.mem_cons_of_mem _ hy)
    have hx := h x (List.mem_cons_self ..)
    have h1 := dec_len x.1 (by omega)
    have h2 := dec_len x.2 (by omega)
    have h3 : ((segT x).length : Int) + 1 ≤ 3 * ((x.2 : Int) - x.1 + 1) := by
      rw [segT]
      split
      · rw [List.length_append, List.length_cons]; omega
      · omega
    simp only [List.map_cons, sumL, wid, List.foldr_cons] at ih ⊢
    omega
theorem textS_wid (b : BitVec 64) : (textS b).length ≤ 3 * cntB b.getLsbD 64 := by
  have h1 := join_sum ((segsS b).map segT)
  have h2 := sum_wid (segsS b) (good_bound (segsS_good b))
  have h3 := segs_wid b.getLsbD 64 (Nat.le_refl _)
  rw [← segsS] at h3
  rw [textS]
  omega
theorem sum_cnt (g : Nat → Int × Int) : ∀ (L : List (Int × Int)), L.Nodup → ∀ n, n ≤ 64 → sumL (L.map fun p => cntB (setG g p).getLsbD n) ≤ n := by
  intro L hL n
  induction n with
  | zero =>
    intro _
    clear hL
    induction L with
    | nil => exact Nat.le_refl _
    | cons p L ih =>
      simp only [List.map_cons, sumL, List.foldr_cons, cntB] at ih ⊢
      omega
  | succ n ihn =>
    intro hn
    have h1 := ihn (by omega)
    have h2 : ∀ (M : List (Int × Int)), M.Nodup → sumL (M.map fun p => cntB (setG g p).getLsbD (n + 1)) = sumL (M.map fun p => cntB (setG g p).getLsbD n) + if g (63 - n) ∈ M then 1 else 0 := by
      intro M hM
      induction M with
      | nil => rfl
      | cons p M ih =>
        have hp := List.nodup_cons.1 hM
        have ih := ih hp.2
        simp only [List.map_cons, sumL, List.foldr_cons] at ih ⊢
        rw [ih, cntB, setG_get, decide_eq_true (by omega : 63 - n < 64), Bool.true_and]
        by_cases hg : g (63 - n) = p
        · subst hg
          rw [decide_eq_true rfl, if_pos rfl, if_pos (List.mem_cons_self ..), if_neg hp.1]; omega
        · rw [decide_eq_false hg, if_neg (by decide)]
          by_cases hm : g (63 - n) ∈ M
          · rw [if_pos hm, if_pos (List.mem_cons_of_mem _ hm)]; omega
          · rw [if_neg hm, if_neg fun e => (List.mem_cons.1 e).elim hg hm]
            omega
    rw [h2 L hL]
    split <;> omega
theorem dec_few {n k : Nat} (h : n < 10 ^ (k + 1)) : (Lib.decDigits n).length ≤ k + 1 := by
  have := nDig_le k n h
  rw [Lib.decDigits_length]; exact this
theorem itoa_few {n : Int} {k : Nat} (h0 : 0 ≤ n) (h : n < ((10 ^ (k + 1) : Nat) : Int)) : (Lib.itoa n).length ≤ k + 1 := by
  obtain ⟨m, rfl⟩ := Int.eq_ofNat_of_zero_le h0
  rw [itoa_nat]; exact dec_few (by omega)
theorem id_few {n : Int} (h0 : 0 ≤ n) (h : n ≤ 4294967296) : (Lib.itoa n).length ≤ 10 := itoa_few (k := 9) h0 (by omega)
theorem ep_few {n : Int} (h0 : 0 ≤ n) (h : n ≤ 281474976710656) : (Lib.itoa n).length ≤ 15 := itoa_few (k := 14) h0 (by omega)
theorem lineH_short {s : Stt} (r : Rt s) : (jL (lineH s)).length ≤ 102 := by
  have h := join_sum ((lineH s).map Prt.txt)
  have h1 := id_few (by have := r.id; omega) r.id.2
  have h2 := id_few r.master.1 r.master.2
  have h3 := ep_few r.cur.1 r.cur.2
  have h4 := ep_few r.vote.1 (by have := r.vote.2; have := r.cur.2; omega)
  have h5 := ep_few r.cfg.1 (by have := r.cfg.2; have := r.cur.2; omega)
  simp only [lineH, List.map_cons, List.map_nil, Prt.txt, sumL, List.foldr_cons, List.foldr_nil, List.length_cons, List.length_nil] at h
  rw [jL]
  simp only [lineH, List.map_cons, List.map_nil, Prt.txt]
  omega
theorem lineK_short {s : Stt} (r : Rt s) {k : Kn} (hk : k ∈ s.known) : (jL (lineK k)).length ≤ 57 := by
  have h := join_sum ((lineK k).map Prt.txt)
  obtain ⟨a, b, d⟩ := r.known k hk
  have h1 := id_few (by omega) a.2
  have h2 := id_few b.1 b.2
  have h3 := ep_few d.1 d.2
  simp only [lineK, List.map_cons, List.map_nil, Prt.txt, sumL, List.foldr_cons, List.foldr_nil, List.length_cons, List.length_nil] at h
  rw [jL]
  simp only [lineK, List.map_cons, List.map_nil, Prt.txt]
  omega
theorem lineP_short {s : Stt} (r : Rt s) {p : Int × Int} (hp : p ∈ pairsG s.g) : (jL (lineP s.g p)).length ≤ 42 + 3 * cntB (setG s.g p).getLsbD 64 := by
  have h := join_sum ((lineP s.g p).map Prt.txt)
  obtain ⟨i, hi, hg⟩ := (mem_pairsG.1 hp).2
  obtain ⟨a, b, _⟩ := r.slot i hi
  have e1 : s.ow i = p.1 := congrArg Prod.fst hg
  have e2 : s.ep i = p.2 := congrArg Prod.snd hg
  rw [e1] at a
  rw [e2] at b
  have h1 := id_few a.1 a.2
  have h2 := ep_few b.1 b.2
  have h3 := textS_wid (setG s.g p)
  simp only [lineP, lineS, List.map_cons, List.map_nil, Prt.txt, sumL, List.foldr_cons, List.foldr_nil, List.length_cons, List.length_nil] at h
  rw [jL]
  simp only [lineP, lineS, List.map_cons, List.map_nil, Prt.txt]
  omega
theorem docL_cons (l : List Prt) (ls : List (List Prt)) : (docL (l :: ls)).length = (jL l).length + 1 + (docL ls).length := by
  rw [show l :: ls = [l] ++ ls from rfl, docL_append, docL_one, List.length_append, List.length_append, List.length_singleton]
theorem kn_short {s : Stt} (r : Rt s) : ∀ (l : List Kn), (∀ k ∈ l, k ∈ s.known) → (docL (l.map lineK)).length ≤ 58 * l.length
  | [], _ => Nat.le_refl _
  | k :: l, h => by
    have h1 := lineK_short r (h k (List.mem_cons_self ..))
    have h2 := kn_short r l fun q hq => h q (List.mem_cons_of_mem _ hq)
    rw [List.map_cons, docL_cons, List.length_cons]; omega
theorem pr_short {s : Stt} (r : Rt s) : ∀ (l : List (Int × Int)), (∀ p ∈ l, p ∈ pairsG s.g) → (docL (l.map (lineP s.g))).length ≤ 43 * l.length + 3 * sumL (l.map fun p => cntB (setG s.g p).getLsbD 64)
  | [], _ => Nat.le_refl _
  | p :: l, h => by
    have h1 := lineP_short r (h p (List.mem_cons_self ..))
    have h2 := pr_short r l fun q hq => h q (List.mem_cons_of_mem _ hq)
    rw [List.map_cons, docL_cons, List.length_cons]
    simp only [List.map_cons, sumL, List.foldr_cons] at h2 ⊢
    omega
theorem doc_short {s : Stt} (r : Rt s) : (docT s).length ≤ 4000 := by
  have h1 := lineH_short r
  have h2 := kn_short r s.known fun _ h => h
  have h3 := pr_short r (pairsG s.g) fun _ h => h
  have h4 := sum_cnt s.g (pairsG s.g) (pairsG_nodup s.g) 64 (Nat.le_refl _)
  have h5 := pairs_len s.g
  have h6 := r.len
  rw [docT, allL_eq, docL_cons, docL_append, List.length_append]; omega
end Go.Proofs.YtcomjodfkcnjhaaGreatDoor
