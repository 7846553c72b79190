/- Walks: states compared, the document's example, the anchor. -/
import Derived.Test.YtbcanlmpfhkklaaGreatDoorCP2
import Derived.Test.YtbcanlmpfhkklaaGreatDoorCE4
set_option linter.unusedSimpArgs false
set_option linter.unusedVariables false
namespace Go.Proofs.YtbcanlmpfhkklaaGreatDoor
open Go.Ax
open Cel (c)
theorem qU11 {p : Prop} (h : p := by (conv => lhs; whnf); all_goals exact rfl) : p := h
theorem qU12 {p : Prop} (h : p := by simp only [Nat.reduceAdd]; exact rfl) : p := h
theorem qU13 {p : Prop} (h : p := by first | omega | (simp only [za, zb, zc, zd]; omega)) : p := h
theorem qU14 {p : Prop} (h : p := by first | with_reducible assumption | exact rfl) : p := h
theorem qU15 {p : Prop} (h : p := by first | exact AStepD.neq rfl rfl rfl | exact AStepD.str_neq rfl rfl rfl | exact (AStepD.ptr_nil tok (.inl ⟨_, _, rfl⟩) rfl rfl rfl).2 rfl | exact (AStepD.nil_nil tok rfl rfl rfl rfl).2 rfl | exact (AStepD.bool_eq tok rfl rfl rfl rfl).2 rfl | exact (AStepD.ptr_same tok rfl rfl rfl rfl rfl).2 rfl | exact (AStepD.iface_nil tok rfl rfl rfl rfl).2 rfl | exact (AStepD.nilIface_nil tok rfl rfl rfl rfl).2 rfl) : p := h
theorem qU16 {p : Prop} (h : p := by intro h; first | (rw [h]; done) | (rw [h]; rfl) | (simp [h]; done) | (simp_all; done) | exact guard_true h) : p := h
theorem qU17 {p : Prop} (h : p := by first | exact IsSl.vec | exact IsSl.sl | exact IsSl.slc | exact IsSl.nil | with_reducible assumption) : p := h
theorem qU18 {p : Prop} (h : p := by repeat' (first | exact Keep.refl _ | apply Keep.new | apply Keep.set | apply Keep.del | (first | omega | (simp only [za, zb, zc]; omega)))) : p := h
theorem qU19 {p : Prop} (h : p := by (conv => lhs; whnf); all_goals first | exact rfl | (simp; done) | (simp; omega)) : p := h
theorem qU110 {p : Prop} (h : p := by (try simp only [za, zb, zc, zd, ne_eq]); omega) : p := h
theorem qU111 {p : Prop} (h : p := by first | exact rfl | exact (Int.toNat_of_nonneg (by omega)).symm) : p := h
theorem qU112 {p : Prop} (h : p := by first | omega | (simp; done) | (simp; omega) | (simp only [over, List.length_append, List.length_take, List.length_drop, *]; omega) | (simp_all; done) | (simp_all; omega)) : p := h
theorem qU113 {p : Prop} (h : p := by first | (simp only [Nat.zero_add, Nat.zero_mul, Nat.sub_zero, Nat.add_zero]; exact rfl) | exact rfl) : p := h
theorem qU114 {p : Prop} (h : p := by first | exact Nat.le_of_ble_eq_true rfl | (simp; done) | (simp; omega) | (simp_all; omega)) : p := h
theorem qU115 {p : Prop} (h : p := by first | with_reducible assumption | (simp only [List.take_succ_cons, List.take_zero, List.drop_succ_cons, List.drop_zero]; exact rfl) | exact rfl) : p := h
theorem qU116 {p : Prop} (h : p := by first | with_reducible assumption | exact Cel.one _ | exact flat_ones _ | exact ones_nil | (simp only [List.forall_mem_cons, List.not_mem_nil, false_implies, implies_true, and_true, one_v, one_ptr, one_ip, one_sl, one_slc, one_vec, one_map, one_func, one_iface, Value.oneCell', *]; done) | (simp [AV.one, Value.oneCell', *]; done)) : p := h
theorem qU117 {p : Prop} (h : p := by first | ((with_reducible refine over_all ?_); exact rfl) | (simp only [over, List.take_succ_cons, List.take_zero, List.drop_succ_cons, List.drop_zero, List.length_cons, List.length_nil, List.nil_append, List.cons_append, Nat.reduceAdd, Nat.zero_add, List.drop_nil, List.append_nil]; exact rfl) | conv => lhs; whnf) : p := h
theorem qU118 {p : Prop} (h : p := by repeat' (first | exact Keep.refl _ | with_reducible assumption | apply Keep.new | apply Keep.set | apply Keep.del | (first | omega | (simp only [za, zb, zc]; omega)))) : p := h
theorem qU119 {p : Prop} (h : p := by exact AStepD.assign' rfl qU11) : p := h
theorem qU120 {p : Prop} (h : p := by first | exact Nat.zero_add 0 | exact (show _ + 0 = _ from qU12) | exact (show _ + 0 = _ + 0 from rfl) | exact rfl) : p := h
theorem qU121 {p : Prop} (h : p := by first | with_reducible assumption | (simp (disch := (first | omega | (exact Lst.lab_ne (by with_reducible assumption) qU13) | (exact Lst.lab_new (by with_reducible assumption) qU13) | (refine id ?_; simp only [za, zb, zc, zd]; done) | (simp only [za, zb, zc, zd]; omega))) only [z1, z2, z3, z4, z5, z6, z7, z8, z9, ne_eq, *]; done) | (simp (disch := (first | omega | (exact Lst.lab_ne (by with_reducible assumption) qU13) | (exact Lst.lab_new (by with_reducible assumption) qU13) | (refine id ?_; simp only [za, zb, zc, zd]; done) | (simp only [za, zb, zc, zd]; omega))) only [z1, z2, z3, z4, z5, z6, z7, z8, z9, ne_eq, *]; exact rfl)) : p := h
theorem qU122 {p : Prop} (h : p := by exact AStepD.move' rfl qU11) : p := h
theorem qU123 {p : Prop} (h : p := by first | exact Nat.zero_add 1 | exact (show _ + 1 = _ from qU12) | exact (show _ + 1 = _ + 1 from rfl) | exact rfl) : p := h
theorem qU124 {p : Prop} (h : p := by exact (fun hb => by (repeat (first | apply UW.yes rfl (gpf hb) | apply UW.no)); exact UW.nil qU15)) : p := h
theorem qU125 {p : Prop} (h : p := by exact (fun _ hb => by (repeat (first | apply UW.yes rfl (gpf hb) | apply UW.no)); exact UW.nil qU15)) : p := h
theorem qU126 {p : Prop} (h : p := by first | exact AStepD.pick_true' rfl rfl qU11 | exact AStepD.pick_false' rfl rfl qU11 | exact AStepD.and rfl _ _ _ rfl rfl qU16 rfl | exact AStepD.and' rfl _ _ rfl rfl rfl | exact AStepD.or rfl _ _ _ rfl rfl rfl qU16 | exact AStepD.or' rfl _ _ rfl rfl rfl) : p := h
theorem qU127 {p : Prop} (h : p := by first | exact Nat.zero_add 2 | exact (show _ + 2 = _ from qU12) | exact (show _ + 2 = _ + 2 from rfl) | exact rfl) : p := h
theorem qU128 {p : Prop} (h : p := by first | exact Nat.zero_add 6 | exact (show _ + 6 = _ from qU12) | exact (show _ + 6 = _ + 6 from rfl) | exact rfl) : p := h
theorem qU129 {p : Prop} (h : p := by first | exact Nat.zero_add 5 | exact (show _ + 5 = _ from qU12) | exact (show _ + 5 = _ + 5 from rfl) | exact rfl) : p := h
theorem qU130 {p : Prop} (h : p := by first | exact AStepD.len_str tok rfl rfl rfl rfl | exact AStepD.len_sl tok rfl qU11 qU17 rfl rfl | exact AStepD.len_arr tok rfl rfl rfl) : p := h
theorem qU131 {p : Prop} (h : p := by repeat' (first | exact SubT.nil _ | refine SubT.cons_eq qU19 ?_)) : p := h
theorem qU132 {p : Prop} (h : p := by first | exact AStepD.indexAddr_flat tok rfl rfl rfl rfl rfl rfl rfl (show _ = 3 from rfl) rfl qU111 qU112 | exact AStepD.indexAddr_vec' tok rfl rfl rfl rfl rfl rfl (show _ = 3 from rfl) qU111 qU112 | exact AStepD.indexAddr_sl' tok rfl rfl rfl rfl rfl rfl (show _ = 3 from rfl) qU111 qU112 qU113 | exact AStepD.indexAddr_arr' tok rfl rfl rfl rfl rfl rfl (show _ = 3 from rfl) qU111 qU112 qU113) : p := h
theorem qU133 {p : Prop} (h : p := by exact SD.s rfl rfl rfl qU119) : p := h
theorem qU134 {p : Prop} (h : p := by first | exact AStepD.fieldAddr' tok rfl rfl rfl rfl rfl rfl rfl qU120 | exact AStepD.fieldAddr_ip' tok rfl rfl rfl rfl rfl rfl rfl List.drop_zero) : p := h
theorem qU135 {p : Prop} (h : p := by first | exact AStepD.load_one tok rfl rfl rfl rfl qU121 rfl qU14 | exact AStepD.load_one_ip tok rfl rfl rfl rfl rfl qU14) : p := h
theorem qU136 {p : Prop} (h : p := by exact SD.s rfl rfl rfl qU122) : p := h
theorem qU137 {p : Prop} (h : p := by first | exact AStepD.fieldAddr' tok rfl rfl rfl rfl rfl rfl rfl qU123 | exact AStepD.fieldAddr_ip' tok rfl rfl rfl rfl rfl rfl rfl (show List.drop 1 _ = _ from rfl)) : p := h
theorem qU138 {p : Prop} (h : p := by first | exact GW.yes rfl rfl rfl rfl rfl rfl rfl qU15 | exact GW.no rfl rfl rfl rfl rfl rfl rfl | exact GW.none rfl rfl rfl rfl rfl | exact GW.may rfl rfl rfl rfl rfl rfl qU124 | exact GW.may2 rfl rfl rfl rfl rfl rfl qU125) : p := h
theorem qU139 {p : Prop} (h : p := by exact SD.s rfl rfl rfl qU126) : p := h
theorem qU140 {p : Prop} (h : p := by first | exact AStepD.fieldAddr' tok rfl rfl rfl rfl rfl rfl rfl qU127 | exact AStepD.fieldAddr_ip' tok rfl rfl rfl rfl rfl rfl rfl (show List.drop 2 _ = _ from rfl)) : p := h
theorem qU141 {p : Prop} (h : p := by first | exact AStepD.fieldAddr' tok rfl rfl rfl rfl rfl rfl rfl qU128 | exact AStepD.fieldAddr_ip' tok rfl rfl rfl rfl rfl rfl rfl (show List.drop 6 _ = _ from rfl)) : p := h
theorem qU142 {p : Prop} (h : p := by first | exact AStepD.fieldAddr' tok rfl rfl rfl rfl rfl rfl rfl qU129 | exact AStepD.fieldAddr_ip' tok rfl rfl rfl rfl rfl rfl rfl (show List.drop 5 _ = _ from rfl)) : p := h
theorem qU143 {p : Prop} (h : p := by exact (fun hb => by (repeat (first | apply UW.yes rfl (gpf hb) | apply UW.no)); exact UW.nil qU130)) : p := h
theorem qU144 {p : Prop} (h : p := by exact (fun _ hb => by (repeat (first | apply UW.yes rfl (gpf hb) | apply UW.no)); exact UW.nil qU130)) : p := h
theorem qU145 {p : Prop} (h : p := by first | exact AStepD.load_cel_ip tok rfl rfl rfl rfl (show _ = 3 from rfl) rfl | exact AStepD.load_agg tok rfl rfl rfl qU121 rfl (show _ = 3 from rfl) qU114 qU115 | exact AStepD.load_agg_ip tok rfl rfl rfl rfl (show _ = 3 from rfl) qU114 qU115) : p := h
theorem qU146 {p : Prop} (h : p := by exact SD.s rfl rfl rfl qU134) : p := h
theorem qU147 {p : Prop} (h : p := by exact SD.s rfl rfl rfl qU135) : p := h
theorem qU148 {p : Prop} (h : p := by exact (fun hb => by (repeat (first | apply UW.yes rfl (gpf hb) | apply UW.no)); exact UW.nil qU137)) : p := h
theorem qU149 {p : Prop} (h : p := by exact (fun _ hb => by (repeat (first | apply UW.yes rfl (gpf hb) | apply UW.no)); exact UW.nil qU137)) : p := h
theorem qU150 {p : Prop} (h : p := by exact (fun hb => by (repeat (first | apply UW.yes rfl (gpf hb) | apply UW.no)); exact UW.nil qU135)) : p := h
theorem qU151 {p : Prop} (h : p := by exact (fun _ hb => by (repeat (first | apply UW.yes rfl (gpf hb) | apply UW.no)); exact UW.nil qU135)) : p := h
theorem qU152 {p : Prop} (h : p := by exact (fun hb => by (repeat (first | apply UW.yes rfl (gpf hb) | apply UW.no)); exact UW.nil qU140)) : p := h
theorem qU153 {p : Prop} (h : p := by exact (fun _ hb => by (repeat (first | apply UW.yes rfl (gpf hb) | apply UW.no)); exact UW.nil qU140)) : p := h
theorem qU154 {p : Prop} (h : p := by exact (fun hb => by (repeat (first | apply UW.yes rfl (gpf hb) | apply UW.no)); exact UW.nil qU141)) : p := h
theorem qU155 {p : Prop} (h : p := by exact (fun _ hb => by (repeat (first | apply UW.yes rfl (gpf hb) | apply UW.no)); exact UW.nil qU141)) : p := h
theorem qU156 {p : Prop} (h : p := by exact (fun hb => by (repeat (first | apply UW.yes rfl (gpf hb) | apply UW.no)); exact UW.nil qU142)) : p := h
theorem qU157 {p : Prop} (h : p := by exact (fun _ hb => by (repeat (first | apply UW.yes rfl (gpf hb) | apply UW.no)); exact UW.nil qU142)) : p := h
theorem qU158 {p : Prop} (h : p := by first | exact GW.yes rfl rfl rfl rfl rfl rfl rfl qU130 | exact GW.no rfl rfl rfl rfl rfl rfl rfl | exact GW.none rfl rfl rfl rfl rfl | exact GW.may rfl rfl rfl rfl rfl rfl qU143 | exact GW.may2 rfl rfl rfl rfl rfl rfl qU144) : p := h
theorem qU159 {p : Prop} (h : p := by first | exact GW.yes rfl rfl rfl rfl rfl rfl rfl qU137 | exact GW.no rfl rfl rfl rfl rfl rfl rfl | exact GW.none rfl rfl rfl rfl rfl | exact GW.may rfl rfl rfl rfl rfl rfl qU148 | exact GW.may2 rfl rfl rfl rfl rfl rfl qU149) : p := h
theorem qU160 {p : Prop} (h : p := by first | exact GW.yes rfl rfl rfl rfl rfl rfl rfl qU135 | exact GW.no rfl rfl rfl rfl rfl rfl rfl | exact GW.none rfl rfl rfl rfl rfl | exact GW.may rfl rfl rfl rfl rfl rfl qU150 | exact GW.may2 rfl rfl rfl rfl rfl rfl qU151) : p := h
theorem qU161 {p : Prop} (h : p := by first | exact GW.yes rfl rfl rfl rfl rfl rfl rfl qU140 | exact GW.no rfl rfl rfl rfl rfl rfl rfl | exact GW.none rfl rfl rfl rfl rfl | exact GW.may rfl rfl rfl rfl rfl rfl qU152 | exact GW.may2 rfl rfl rfl rfl rfl rfl qU153) : p := h
theorem qU162 {p : Prop} (h : p := by first | exact GW.yes rfl rfl rfl rfl rfl rfl rfl qU141 | exact GW.no rfl rfl rfl rfl rfl rfl rfl | exact GW.none rfl rfl rfl rfl rfl | exact GW.may rfl rfl rfl rfl rfl rfl qU154 | exact GW.may2 rfl rfl rfl rfl rfl rfl qU155) : p := h
theorem qU163 {p : Prop} (h : p := by first | exact GW.yes rfl rfl rfl rfl rfl rfl rfl qU142 | exact GW.no rfl rfl rfl rfl rfl rfl rfl | exact GW.none rfl rfl rfl rfl rfl | exact GW.may rfl rfl rfl rfl rfl rfl qU156 | exact GW.may2 rfl rfl rfl rfl rfl rfl qU157) : p := h
set_option linter.unusedSimpArgs false
set_option linter.unusedVariables false
open Cel (c)

def sixB (a b : Stt) : Bool := (decide (a.id ≠ b.id) || decide (a.master ≠ b.master) || !decide ([a.cur, a.vote, a.cfg] = [b.cur, b.vote, b.cfg]) || !decide (a.own ++ a.epo = b.own ++ b.epo) || decide ((a.known.length : Int) ≠ (b.known.length : Int)))
theorem same_iff {a b : Stt} (oa : a.Ok) (ob : b.Ok) : a = b ↔ sixB a b = false ∧ ∀ (j : Nat) (h1 : j < a.known.length) (h2 : j < b.known.length), a.known[j] = b.known[j] := by
  simp only [sixB, Bool.or_eq_false_iff, decide_eq_false_iff_not, Bool.not_eq_false', decide_eq_true_eq, ne_eq, Decidable.not_not, List.cons.injEq, and_true]
  constructor
  · rintro rfl
    exact ⟨⟨⟨⟨⟨rfl, rfl⟩, rfl, rfl, rfl⟩, rfl⟩, rfl⟩, fun _ _ _ => rfl⟩
  · rintro ⟨⟨⟨⟨⟨h1, h2⟩, h3, h4, h5⟩, h6⟩, h7⟩, h8⟩
    have h9 := List.append_inj h6 (by rw [oa.o, ob.o])
    have h10 : a.known = b.known := List.ext_getElem (by omega) fun i q1 q2 => h8 i q1 q2
    cases a; cases b
    simp only at h1 h2 h3 h4 h5 h9 h10
    obtain ⟨h11, h12⟩ := h9
    subst h1 h2 h3 h4 h5 h10 h11 h12
    rfl
theorem tab_flat (s : Stt) : s.tab = flat (s.own ++ s.epo) := (flat_append _ _).symm
set_option maxHeartbeats 4000000 in
theorem same_calls (H : AHeap) (a b : Stt) (oa : a.Ok) (ob : b.Ok) : ACalls Tryz.prog 16 [stA a, stA b] H (fun r H' => r = .v (.bool (decide (a = b))) ∧ H' = H) := by
  refine ACalls.quiet_keep ?_ (.v _)
  have hca := oa.fc (vecA a.known)
  have hcb := ob.fc (vecA b.known)
  have hla : (a.own ++ a.epo).length = 128 := by rw [List.length_append, oa.o, oa.e]
  have hlb : (b.own ++ b.epo).length = 128 := by rw [List.length_append, ob.o, ob.e]
  refine ACalls.of_body tok Tryz.func16 rfl Tryz.ntmps16 (Nat.le_of_ble_eq_true rfl) (fun base => ?_)
  refine rg fun K hK => ?_
  refine st (by exact SD.s rfl rfl rfl (by exact AStepD.box (cs := a.cs (vecA a.known)) rfl rfl (a.cs_one rfl))) <| st (by exact SD.s rfl rfl rfl (by exact AStepD.box (cs := b.cs (vecA b.known)) rfl rfl (b.cs_one rfl))) <| st qU133 <| nt (hK _ _ ?_)
  clear hK K
  refine AW.seq_k (fun K1 hK1 => ?_)
  refine rg fun K hK => ?_
  refine st qU146 <| st qU147 <| st qU146 <| st qU147 <| st (by exact SD.s rfl rfl rfl qU15) <| st qU136 <| st (GW.p (l := [2]) qU159) <| st (GW.p (l := [13]) qU160) <| st (GW.p (l := [3]) qU159) <| st (GW.p (l := [15]) qU160) <| st (GW.p (l := [14, 16]) qU138) <| st qU139 <| st qU136 <| st (GW.p (l := [2]) qU161) <| st (GW.p (l := [20]) (by first | exact GW.yes rfl rfl rfl rfl rfl rfl rfl (by exact AStepD.load_agg (cs := a.cs (vecA a.known)) tok rfl rfl rfl qU121 rfl (show _ = 3 from rfl) (by omega) rfl) | exact GW.no rfl rfl rfl rfl rfl rfl rfl | exact GW.none rfl rfl rfl rfl rfl | exact GW.may rfl rfl rfl rfl rfl rfl (fun hb => by (repeat (first | apply UW.yes rfl (gpf hb) | apply UW.no)); exact UW.nil (by exact AStepD.load_agg (cs := a.cs (vecA a.known)) tok rfl rfl rfl qU121 rfl (show _ = 3 from rfl) (by omega) rfl)) | exact GW.may2 rfl rfl rfl rfl rfl rfl (fun _ hb => by (repeat (first | apply UW.yes rfl (gpf hb) | apply UW.no)); exact UW.nil (by exact AStepD.load_agg (cs := a.cs (vecA a.known)) tok rfl rfl rfl qU121 rfl (show _ = 3 from rfl) (by omega) rfl)))) <| st (GW.p (l := [3]) qU161) <| st (GW.p (l := [22]) (by first | exact GW.yes rfl rfl rfl rfl rfl rfl rfl (by exact AStepD.load_agg (cs := b.cs (vecA b.known)) tok rfl rfl rfl qU121 rfl (show _ = 3 from rfl) (by omega) rfl) | exact GW.no rfl rfl rfl rfl rfl rfl rfl | exact GW.none rfl rfl rfl rfl rfl | exact GW.may rfl rfl rfl rfl rfl rfl (fun hb => by (repeat (first | apply UW.yes rfl (gpf hb) | apply UW.no)); exact UW.nil (by exact AStepD.load_agg (cs := b.cs (vecA b.known)) tok rfl rfl rfl qU121 rfl (show _ = 3 from rfl) (by omega) rfl)) | exact GW.may2 rfl rfl rfl rfl rfl rfl (fun _ hb => by (repeat (first | apply UW.yes rfl (gpf hb) | apply UW.no)); exact UW.nil (by exact AStepD.load_agg (cs := b.cs (vecA b.known)) tok rfl rfl rfl qU121 rfl (show _ = 3 from rfl) (by omega) rfl)))) <| st (GW.p (l := [21, 23]) (by first | exact GW.yes rfl rfl rfl rfl rfl rfl rfl (by exact AStepD.ints_eq (xs := [a.cur, a.vote, a.cfg]) (ys := [b.cur, b.vote, b.cfg]) tok 3 .neq (.inr rfl) rfl rfl rfl rfl rfl (by kernel_rfl) (by kernel_rfl) rfl rfl (show _ = !decide _ from rfl)) | exact GW.no rfl rfl rfl rfl rfl rfl rfl | exact GW.none rfl rfl rfl rfl rfl | exact GW.may rfl rfl rfl rfl rfl rfl (fun hb => by (repeat (first | apply UW.yes rfl (gpf hb) | apply UW.no)); exact UW.nil (by exact AStepD.ints_eq (xs := [a.cur, a.vote, a.cfg]) (ys := [b.cur, b.vote, b.cfg]) tok 3 .neq (.inr rfl) rfl rfl rfl rfl rfl (by kernel_rfl) (by kernel_rfl) rfl rfl (show _ = !decide _ from rfl))) | exact GW.may2 rfl rfl rfl rfl rfl rfl (fun _ hb => by (repeat (first | apply UW.yes rfl (gpf hb) | apply UW.no)); exact UW.nil (by exact AStepD.ints_eq (xs := [a.cur, a.vote, a.cfg]) (ys := [b.cur, b.vote, b.cfg]) tok 3 .neq (.inr rfl) rfl rfl rfl rfl rfl (by kernel_rfl) (by kernel_rfl) rfl rfl (show _ = !decide _ from rfl))))) <| st qU139 <| st qU136 <| st (GW.p (l := [2]) qU162) <| st (GW.p (l := [27]) (by first | exact GW.yes rfl rfl rfl rfl rfl rfl rfl (by exact AStepD.load_agg (cs := a.cs (vecA a.known)) tok rfl rfl rfl qU121 rfl (show _ = 128 from rfl) (by omega) oa.takeT) | exact GW.no rfl rfl rfl rfl rfl rfl rfl | exact GW.none rfl rfl rfl rfl rfl | exact GW.may rfl rfl rfl rfl rfl rfl (fun hb => by (repeat (first | apply UW.yes rfl (gpf hb) | apply UW.no)); exact UW.nil (by exact AStepD.load_agg (cs := a.cs (vecA a.known)) tok rfl rfl rfl qU121 rfl (show _ = 128 from rfl) (by omega) oa.takeT)) | exact GW.may2 rfl rfl rfl rfl rfl rfl (fun _ hb => by (repeat (first | apply UW.yes rfl (gpf hb) | apply UW.no)); exact UW.nil (by exact AStepD.load_agg (cs := a.cs (vecA a.known)) tok rfl rfl rfl qU121 rfl (show _ = 128 from rfl) (by omega) oa.takeT)))) <| st (GW.p (l := [3]) qU162) <| st (GW.p (l := [29]) (by first | exact GW.yes rfl rfl rfl rfl rfl rfl rfl (by exact AStepD.load_agg (cs := b.cs (vecA b.known)) tok rfl rfl rfl qU121 rfl (show _ = 128 from rfl) (by omega) ob.takeT) | exact GW.no rfl rfl rfl rfl rfl rfl rfl | exact GW.none rfl rfl rfl rfl rfl | exact GW.may rfl rfl rfl rfl rfl rfl (fun hb => by (repeat (first | apply UW.yes rfl (gpf hb) | apply UW.no)); exact UW.nil (by exact AStepD.load_agg (cs := b.cs (vecA b.known)) tok rfl rfl rfl qU121 rfl (show _ = 128 from rfl) (by omega) ob.takeT)) | exact GW.may2 rfl rfl rfl rfl rfl rfl (fun _ hb => by (repeat (first | apply UW.yes rfl (gpf hb) | apply UW.no)); exact UW.nil (by exact AStepD.load_agg (cs := b.cs (vecA b.known)) tok rfl rfl rfl qU121 rfl (show _ = 128 from rfl) (by omega) ob.takeT)))) <| st (GW.p (l := [28, 30]) (by first | exact GW.yes rfl rfl rfl rfl rfl rfl rfl (by exact AStepD.ints_eq (xs := a.own ++ a.epo) (ys := b.own ++ b.epo) tok 4 .neq (.inr rfl) rfl (by rw [← tab_flat]; rfl) (by rw [← tab_flat]; rfl) rfl rfl (by kernel_rfl) (by kernel_rfl) (by rw [hla]; rfl) (by rw [hlb]; rfl) (show _ = !decide _ from rfl)) | exact GW.no rfl rfl rfl rfl rfl rfl rfl | exact GW.none rfl rfl rfl rfl rfl | exact GW.may rfl rfl rfl rfl rfl rfl (fun hb => by (repeat (first | apply UW.yes rfl (gpf hb) | apply UW.no)); exact UW.nil (by exact AStepD.ints_eq (xs := a.own ++ a.epo) (ys := b.own ++ b.epo) tok 4 .neq (.inr rfl) rfl (by rw [← tab_flat]; rfl) (by rw [← tab_flat]; rfl) rfl rfl (by kernel_rfl) (by kernel_rfl) (by rw [hla]; rfl) (by rw [hlb]; rfl) (show _ = !decide _ from rfl))) | exact GW.may2 rfl rfl rfl rfl rfl rfl (fun _ hb => by (repeat (first | apply UW.yes rfl (gpf hb) | apply UW.no)); exact UW.nil (by exact AStepD.ints_eq (xs := a.own ++ a.epo) (ys := b.own ++ b.epo) tok 4 .neq (.inr rfl) rfl (by rw [← tab_flat]; rfl) (by rw [← tab_flat]; rfl) rfl rfl (by kernel_rfl) (by kernel_rfl) (by rw [hla]; rfl) (by rw [hlb]; rfl) (show _ = !decide _ from rfl))))) <| st qU139 <| st qU136 <| st (GW.p (l := [2]) qU163) <| st (GW.p (l := [34]) qU160) <| st (GW.p (l := [35]) qU158) <| st (GW.p (l := [3]) qU163) <| st (GW.p (l := [37]) qU160) <| st (GW.p (l := [38]) qU158) <| st (GW.p (l := [36, 39]) qU138) <| st qU139 <| nt (hK _ _ ?_)
  clear hK K
  refine AW.cond _ rfl (fun hc => ?_) (fun hc => ?_)
  · have hc : sixB a b = true := hc
    refine rg fun K hK => ?_
    refine st qU133 <| nt (hK _ _ ?_)
    clear hK K
    refine AW.ret (RetQ.mk (.inr rfl) (retA_tmp rfl qU11 retA_nil) ⟨?_, qU18⟩)
    rw [decide_eq_false fun e => by rw [((same_iff oa ob).1 e).1] at hc; cases hc]; rfl
  have hc : sixB a b = false := hc
  have hkl : a.known.length = b.known.length := by
    have h1 := hc
    simp only [sixB, Bool.or_eq_false_iff, decide_eq_false_iff_not, ne_eq, Decidable.not_not] at h1
    omega
  refine AW.skip ?_
  refine hK1 _ _ ?_; try clear hK1 K1
  refine AW.seq_k (fun K2 hK2 => ?_)
  refine rg fun K hK => ?_
  refine st (by exact SD.s rfl rfl rfl qU142) <| st qU147 <| st (by exact SD.s rfl rfl rfl qU130) <| st qU136 <| nt (hK _ _ ?_)
  clear hK K
  refine AW.len (s := 43) (x := vecA a.known) (k := a.known.length) rfl .vec fun hlen => ?_
  have hlen : a.known.length ≤ 9223372036854775807 := hlen
  refine AW.block ?_
  refine AW.loop_at (ι := Nat) (fun i => [(45, .v (.int .i64 (i : Nat))), (44, .v (.int .i64 (a.known.length : Nat))), (43, vecA a.known), (3, .ptr (H.next + 1) 0)])
    (fun i H' => i ≤ a.known.length ∧ H'.get (H.next + 1) = some (.cells 29 (b.cs (vecA b.known))) ∧ (∀ (j : Nat) (h1 : j < a.known.length) (h2 : j < b.known.length), j < i → a.known[j] = b.known[j]) ∧ Keep H H' ∧ H.next + 1 < H'.next) (fun i => a.known.length - i) 0 qU131 ⟨Nat.zero_le _, qU121, fun _ _ _ h => absurd h (by omega), qU18, qU110⟩ ?_
  rintro i H2 ⟨hi, g1, hal, hkp, hn⟩
  refine rg fun K hK => ?_
  refine st (by exact SD.s rfl rfl rfl (by exact AStepD.lss rfl rfl rfl)) <| nt (hK _ _ ?_)
  clear hK K
  refine AW.seq_k (fun K3 hK3 => ?_)
  refine AW.cond _ rfl (fun hc => ?_) (fun hc => ?_)
  · (try simp only [Bool.or_eq_true, Bool.and_eq_true, Bool.or_eq_false_iff, Bool.and_eq_false_iff, Bool.not_eq_true', Bool.not_eq_false', decide_eq_true_eq, decide_eq_false_iff_not, Int.not_lt, Int.not_le] at hc)
    have hia : i < a.known.length := by omega
    have hib : i < b.known.length := by omega
    refine AW.skip ?_
    refine hK3 _ _ ?_; try clear hK3 K3
    refine AW.seq_k (fun K4 hK4 => ?_)
    refine AW.block ?_
    refine rg fun K hK => ?_
    refine st qU136 <| st (by exact SD.s rfl rfl rfl qU132) <| st (by exact SD.s rfl rfl rfl qU145) <| st (by exact SD.s rfl rfl rfl (by exact AStepD.alloc tok rfl rfl)) <| st qU133 <| st0 (by exact ⟨rfl, rfl, (by exact AStepD.store' tok rfl rfl qU121 qU11 (by first | exact one_cells (by with_reducible assumption) | exact qU11) qU116 rfl qU11 rfl qU114 qU117)⟩) <| nt (hK _ _ ?_)
    clear hK K
    refine AW.seq_k (fun K hK => ?_)
    apply AW.draw mixed [_, _, _, _, _, _, _] [] [_] [(0, 0), (1, 0), (2, 0), (3, 0), (4, 0), (5, 0), (6, 0)] rfl rfl rfl (by simp only [List.getD_cons_zero, List.getD_cons_succ]; all_goals apply Eq.refl)
    · refine ⟨?_, ?_, ?_, ?_, ?_, ?_, ?_⟩
      · refine Ob.mk _ [6] 0 rfl rfl (restr_cons qU11 restr_nil) rfl ?_
        simp only [List.getD_cons_zero, List.getD_cons_succ]
        exact GStep.plain rfl qU145
      · refine Ob.mk _ [3] 0 rfl rfl (restr_cons qU11 restr_nil) rfl ?_
        simp only [List.getD_cons_zero, List.getD_cons_succ]
        exact GStep.plain rfl qU142
      · refine Ob.mk _ [51] 0 rfl rfl (restr_cons qU11 restr_nil) rfl ?_
        simp only [List.getD_cons_zero, List.getD_cons_succ]
        exact GStep.plain rfl (by exact AStepD.load_one (cs := b.cs (vecA b.known)) tok rfl rfl rfl rfl qU121 rfl (show _ = some (vecA b.known) from rfl))
      · refine Ob.mk _ [5] 0 rfl rfl (restr_cons qU11 restr_nil) rfl ?_
        simp only [List.getD_cons_zero, List.getD_cons_succ]
        exact GStep.plain rfl qU122
      · refine Ob.mk _ [52, 53] 0 rfl rfl (restr_cons qU11 (restr_cons qU11 restr_nil)) rfl ?_
        simp only [List.getD_cons_zero, List.getD_cons_succ]
        exact GStep.plain rfl (by exact AStepD.indexAddr_flat (i := i) tok rfl rfl rfl rfl rfl rfl rfl rfl rfl rfl hib)
      · refine Ob.mk _ [54] 0 rfl rfl (restr_cons qU11 restr_nil) rfl ?_
        simp only [List.getD_cons_zero, List.getD_cons_succ]
        exact GStep.plain rfl qU145
      · refine Ob.mk _ [50, 55] 0 rfl rfl (restr_cons qU11 (restr_cons qU11 restr_nil)) rfl ?_
        simp only [List.getD_cons_zero, List.getD_cons_succ]
        exact GStep.plain rfl (by exact AStepD.ints_eq (xs := [(a.known[i]).id, (a.known[i]).master, (a.known[i]).cfg]) (ys := [(b.known[i]).id, (b.known[i]).master, (b.known[i]).cfg]) tok 3 .neq (.inr rfl) rfl rfl rfl rfl rfl (by kernel_rfl) (by kernel_rfl) rfl rfl (show _ = !decide _ from rfl))
    refine hK _ _ ?_; clear hK K
    refine AW.frame (by simp only [frameAt, putA]; all_goals exact rfl) (by simp only [List.length_cons, List.length_nil, Nat.zero_add, Nat.reduceAdd, List.getD_cons_zero, List.getD_cons_succ]; all_goals apply Eq.refl) ?_
    have hkq : ∀ p q : Kn, decide ([p.id, p.master, p.cfg] = [q.id, q.master, q.cfg]) = decide (p = q) := fun p q => decide_eq_decide.2 (by
      simp only [List.cons.injEq, and_true]
      exact ⟨fun ⟨h1, h2, h3⟩ => by cases p; cases q; simp only at h1 h2 h3; subst h1 h2 h3; rfl, fun h => by rw [h]; exact ⟨rfl, rfl, rfl⟩⟩)
    rw [hkq]
    refine AW.cond _ rfl (fun hc => ?_) (fun hc => ?_)
    · have hne : a.known[i] ≠ b.known[i] := by simpa using hc
      refine rg fun K hK => ?_
      refine st qU133 <| nt (hK _ _ ?_)
      clear hK K
      refine AW.ret (RetQ.mk (.inr rfl) (retA_tmp rfl qU11 retA_nil) ⟨?_, qU118⟩)
      rw [decide_eq_false fun e => hne (((same_iff oa ob).1 e).2 i hia hib)]; rfl
    · have heq : a.known[i] = b.known[i] := by simpa using hc
      refine AW.skip ?_
      refine hK4 _ _ ?_; try clear hK4 K4
      refine AW.region ?_
      refine st (by exact SD.s rfl rfl rfl (by first | exact AStepD.add rfl rfl rfl (by first | exact IntWalk.i64_in _ (by omega) | exact IntWalk.i64_in _ (by simp only [Bool.or_eq_true, Bool.and_eq_true, Bool.or_eq_false_iff, Bool.and_eq_false_iff, Bool.not_eq_true', Bool.not_eq_false', decide_eq_true_eq, decide_eq_false_iff_not, Int.not_lt, Int.not_le, beq_iff_eq] at *; omega) | exact rfl) | exact AStepD.str_add rfl rfl rfl (by omega))) <| st qU136 <| AL.nil ?_
      refine ⟨i + 1, by omega, qU131, hia, qU121, fun j h1 h2 hj => ?_, qU118, qU110⟩
      rcases Nat.lt_succ_iff_lt_or_eq.1 hj with h | rfl
      · exact hal j h1 h2 h
      · exact heq
  (try simp only [Bool.or_eq_true, Bool.and_eq_true, Bool.or_eq_false_iff, Bool.and_eq_false_iff, Bool.not_eq_true', Bool.not_eq_false', decide_eq_true_eq, decide_eq_false_iff_not, Int.not_lt, Int.not_le] at hc)
  refine AW.exit ?_
  refine hK2 _ _ ?_; try clear hK2 K2 hK3 K3
  refine rg fun K hK => ?_
  refine st qU133 <| nt (hK _ _ ?_)
  clear hK K
  refine AW.ret (RetQ.mk (.inr rfl) (retA_tmp rfl qU11 retA_nil) ⟨?_, hkp⟩)
  rw [decide_eq_true ((same_iff oa ob).2 ⟨by assumption, fun j h1 h2 => hal j h1 h2 (by omega)⟩)]; rfl
end Go.Proofs.YtbcanlmpfhkklaaGreatDoor

/- Walks: the document's example, the anchor. -/

namespace Go.Proofs.YtbcanlmpfhkklaaGreatDoor
open Go.Ax
open Cel (c)
theorem qU21 {p : Prop} (h : p := by exact AStepD.alloc tok rfl rfl) : p := h
theorem qU22 {p : Prop} (h : p := by simp [AV.one, Value.oneCell']) : p := h
theorem qU23 {p : Prop} (h : p := by first | exact AStepD.fieldAddr' tok rfl rfl rfl rfl rfl rfl rfl (by first | exact Nat.zero_add 64 | exact (show _ + 64 = _ from qU12) | exact (show _ + 64 = _ + 64 from rfl) | exact rfl) | exact AStepD.fieldAddr_ip' tok rfl rfl rfl rfl rfl rfl rfl (show List.drop 64 _ = _ from rfl)) : p := h
theorem qU24 {p : Prop} (h : p := by exact AStepD.extract rfl rfl rfl) : p := h
theorem qU25 {p : Prop} (h : p := by first | exact AStepD.eql rfl rfl rfl | exact AStepD.str_eql rfl rfl rfl | exact (AStepD.ptr_nil tok (.inl ⟨_, _, rfl⟩) rfl rfl rfl).1 rfl | exact (AStepD.nil_nil tok rfl rfl rfl rfl).1 rfl | exact (AStepD.bool_eq tok rfl rfl rfl rfl).1 rfl | exact (AStepD.ptr_same tok rfl rfl rfl rfl rfl).1 rfl | exact (AStepD.iface_nil tok rfl rfl rfl rfl).1 rfl | exact (AStepD.nilIface_nil tok rfl rfl rfl rfl).1 rfl) : p := h
theorem qU26 {p : Prop} (h : p := by exact SD.s rfl rfl rfl qU21) : p := h
theorem qU27 {p : Prop} (h : p := by exact SD.s rfl rfl rfl qU24) : p := h
set_option linter.unusedSimpArgs false
set_option linter.unusedVariables false
open Cel (c)

def onesL (i : Nat) : List Int := List.replicate i 1 ++ List.replicate (64 - i) 0
theorem onesL_len {i : Nat} (h : i ≤ 64) : (onesL i).length = 64 := by rw [onesL, List.length_append, List.length_replicate, List.length_replicate]; omega
theorem onesL_next {i : Nat} (h : i < 64) : (onesL i).set i 1 = onesL (i + 1) := by
  rw [onesL, onesL, List.set_append_right _ _ (by simp), List.length_replicate, Nat.sub_self, show 64 - i = (64 - (i + 1)) + 1 by omega, List.replicate_succ, List.set_cons_zero, List.replicate_succ', List.append_assoc]
  rfl
def exT (i : Nat) : Stt := ⟨0, 0, 0, 0, 0, [], onesL i, onesL i⟩
def exS : Stt := ⟨1, 0, 1, 0, 1, [⟨2, 0, 0⟩], List.replicate 64 1, List.replicate 64 1⟩
theorem exT_ok {i : Nat} (h : i ≤ 64) : (exT i).Ok := ⟨onesL_len h, onesL_len h⟩
theorem exS_ok : exS.Ok := ⟨rfl, rfl⟩
theorem ex_right : rightB exS = true := by
  rw [rightB, ownB, ownL_eq]
  decide +kernel
def exText : List UInt8 := [115, 101, 108, 102, 32, 49, 32, 109, 97, 115, 116, 101, 114, 32, 48, 32, 99, 117, 114, 114, 101, 110, 116, 32, 49, 32, 118, 111, 116, 101, 32, 48, 32, 99, 111, 110, 102, 105, 103, 32, 49, 10, 110, 111, 100, 101, 32, 50, 32, 109, 97, 115, 116, 101, 114, 32, 48, 32, 99, 111, 110, 102, 105, 103, 32, 48, 10, 115, 108, 111, 116, 115, 32, 49, 32, 101, 112, 111, 99, 104, 32, 49, 32, 58, 32, 48, 45, 54, 51, 10]
theorem ex_doc : docT exS = exText := by decide +kernel
theorem ex_parse : parseP exText = some exS := by rw [← ex_doc]; exact parse_doc exS_ok ex_right
theorem tab_own {s : Stt} (h : s.Ok) {i : Nat} (hi : i < 64) (v : Int) : Ax.over s.tab (i * 1) [.v (.int .i64 v)] = ({ s with own := s.own.set i v } : Stt).tab := by
  have h1 := over_int s.own i (by rw [h.o]; exact hi) v
  have hf := h.fo
  simp only [Ax.over, List.length_singleton] at h1 ⊢
  show s.tab.take (i * 1) ++ [_] ++ s.tab.drop (i * 1 + 1) = (flat (s.own.set i v) ++ flat s.epo)
  rw [← h1, Stt.tab, List.take_append_of_le_length (by omega), List.drop_append_of_le_length (by omega)]
  simp only [List.append_assoc]
theorem tab_epo {s : Stt} (h : s.Ok) {i : Nat} (hi : i < 64) (v : Int) : Ax.over s.tab (64 + i * 1) [.v (.int .i64 v)] = ({ s with epo := s.epo.set i v } : Stt).tab := by
  have h1 := over_int s.epo i (by rw [h.e]; exact hi) v
  have hf := h.fo
  simp only [Ax.over, List.length_singleton] at h1 ⊢
  rw [show 64 + i * 1 + 1 = 64 + (i * 1 + 1) by omega]
  show s.tab.take (64 + i * 1) ++ [_] ++ s.tab.drop (64 + (i * 1 + 1)) = (flat s.own ++ flat (s.epo.set i v))
  rw [← h1, Stt.tab, ← hf, List.take_length_add_append, List.drop_length_add_append]
  simp only [List.append_assoc]
theorem ex_zero : AV.ofV (tt 27).zero = (exT 0).tab := by kernel_rfl
theorem afill_cons {place : Nat → Option (Nat × Nat)} {cells : List AV} {i off size : Nat} {x : AV} {r : List (Nat × AV)} (h : place i = some (off, size)) (hl : x.cells.length = size) (hk : off + size ≤ cells.length) : afill place cells ((i, x) :: r) = afill place (Ax.over cells off x.cells) r := by
  rw [afill, h]
  exact if_pos ⟨hl, hk⟩
theorem ex_fill : afill (placesOf tt (match (tt 29).und with | .struct fs => fs | _ => #[])) (AV.ofV (tt 29).zero) [(0, .v (.int .i64 1)), (2, .agg [.v (.int .i64 1), .v (.int .i64 0), .v (.int .i64 1)]), (3, vecA [(⟨2, 0, 0⟩ : Kn)]), (4, .agg exS.tab)] = some (exS.cs (vecA exS.known)) := by
  have f : ∀ (s : Stt), s.Ok → ∀ y n, n ≤ 134 → n ≤ (s.cs y).length := fun s h y n hn => by rw [h.fc]; exact hn
  have k1 : ({ zS with id := 1 } : Stt).Ok := ⟨rfl, rfl⟩
  have k2 : ({ zS with id := 1, cur := 1, vote := 0, cfg := 1 } : Stt).Ok := ⟨rfl, rfl⟩
  rw [zS_zero, afill_cons (off := 0) (size := 1) rfl rfl (f _ zS_ok _ _ (by decide)), show Ax.over (zS.cs (.v (.slice none 0 0))) 0 (AV.v (.int .i64 1)).cells = ({ zS with id := 1 } : Stt).cs (.v (.slice none 0 0)) from rfl,
    afill_cons (off := 2) (size := 3) rfl rfl (f _ k1 _ _ (by decide)), show Ax.over (({ zS with id := 1 } : Stt).cs (.v (.slice none 0 0))) 2 (AV.agg [.v (.int .i64 1), .v (.int .i64 0), .v (.int .i64 1)]).cells = ({ zS with id := 1, cur := 1, vote := 0, cfg := 1 } : Stt).cs (.v (.slice none 0 0)) from rfl,
    afill_cons (off := 5) (size := 1) rfl rfl (f _ k2 _ _ (by decide)), show Ax.over (({ zS with id := 1, cur := 1, vote := 0, cfg := 1 } : Stt).cs (.v (.slice none 0 0))) 5 (vecA [(⟨2, 0, 0⟩ : Kn)]).cells = ({ zS with id := 1, cur := 1, vote := 0, cfg := 1 } : Stt).cs (vecA [(⟨2, 0, 0⟩ : Kn)]) from rfl,
    afill_cons (off := 6) (size := 128) (x := .agg exS.tab) rfl (show exS.tab.length = 128 from exS_ok.ft) (f _ k2 _ _ (by decide)), afill]
  refine congrArg some ?_
  show Ax.over _ 6 exS.tab = _
  rw [Ax.over, exS_ok.ft, List.drop_of_length_le (by rw [k2.fc]; decide), List.append_nil]
  rfl
theorem ex_one1 : ∀ p ∈ [((0 : Nat), AV.v (.int .i64 1)), (2, AV.v (.int .i64 1))], ∀ x ∈ p.2.cells, x.one = true := by simp [AV.one, AV.cells, Value.oneCell']
theorem ex_one2 : ∀ p ∈ [((0 : Nat), AV.v (.int .i64 2))], ∀ x ∈ p.2.cells, x.one = true := by simp [AV.one, AV.cells, Value.oneCell']
theorem ex_one3 : ∀ p ∈ [((0 : Nat), AV.v (.int .i64 1)), (2, AV.agg [.v (.int .i64 1), .v (.int .i64 0), .v (.int .i64 1)]), (3, vecA [(⟨2, 0, 0⟩ : Kn)]), (4, AV.agg exS.tab)], ∀ x ∈ p.2.cells, x.one = true := by
  simp only [List.forall_mem_cons, AV.cells]
  exact ⟨⟨rfl, fun _ h => nomatch h⟩, ⟨rfl, rfl, rfl, fun _ h => nomatch h⟩, ⟨rfl, fun _ h => nomatch h⟩, exS.tab_one, fun _ h => nomatch h⟩
theorem example_calls (H : AHeap) : ACalls Tryz.prog 18 [] H (fun r H' => r = stA exS ∧ H' = H) := by
  refine ACalls.quiet_keep ?_ (stA_plain _)
  refine ACalls.of_body tok Tryz.func18 rfl Tryz.ntmps18 (Nat.le_of_ble_eq_true rfl) (fun base => ?_)
  refine rg fun K hK => ?_
  refine st qU26 <| nt (hK _ _ ?_)
  clear hK K
  refine rg fun K hK => ?_
  refine st qU26 <| nt (hK _ _ ?_)
  clear hK K
  rw [ex_zero, zS_zero]
  refine AW.seq_k (fun K1 hK1 => ?_)
  refine rg fun K hK => ?_
  refine st qU136 <| nt (hK _ _ ?_)
  clear hK K
  refine AW.block ?_
  refine AW.loop_at (ι := Nat) (fun i => [(3, .v (.int .i64 (i : Nat))), (1, .ptr (H.next + 1) 0), (0, .ptr H.next 0)])
    (fun i H' => i ≤ 64 ∧ H'.get (H.next + 1) = some (.cells 27 (exT i).tab) ∧ H'.get H.next = some (.cells 29 (zS.cs (.v (.slice none 0 0)))) ∧ Keep H H' ∧ H.next + 1 < H'.next) (fun i => 64 - i) 0 qU131 ⟨by omega, qU121, qU121, qU18, qU110⟩ ?_
  rintro i H2 ⟨hi, g1, g0, hk, hn⟩
  refine rg fun K hK => ?_
  refine st (by exact SD.s rfl rfl rfl (by exact AStepD.lss rfl rfl rfl)) <| nt (hK _ _ ?_)
  clear hK K
  refine AW.seq_k (fun K2 hK2 => ?_)
  refine AW.cond _ rfl (fun hc => ?_) (fun hc => ?_)
  · (try simp only [Bool.or_eq_true, Bool.and_eq_true, Bool.or_eq_false_iff, Bool.and_eq_false_iff, Bool.not_eq_true', Bool.not_eq_false', decide_eq_true_eq, decide_eq_false_iff_not, Int.not_lt, Int.not_le] at hc)
    have hil : i < 64 := by omega
    have ok := exT_ok hi
    have ok2 : ({ exT i with own := (exT i).own.set i 1 } : Stt).Ok := ⟨(List.length_set ..).trans ok.o, ok.e⟩
    have hf := ok.ft
    have hf2 := ok2.ft
    have hnx : ({ exT i with own := (exT i).own.set i 1, epo := (exT i).epo.set i 1 } : Stt) = exT (i + 1) := by
      rw [exT, exT]; simp only [onesL_next hil]
    refine AW.skip ?_
    refine hK2 _ _ ?_; try clear hK2 K2
    refine AW.seq_k (fun K3 hK3 => ?_)
    refine AW.block ?_
    refine rg fun K hK => ?_
    refine st qU136 <| st qU133 <| nt (hK _ _ ?_)
    clear hK K
    refine AW.region ?_
    refine st qU136 <| st qU136 <| st qU146 <| st (by exact SD.s rfl rfl rfl (by exact AStepD.indexAddr_arr' (i := i) (off' := i * 1) tok rfl rfl rfl rfl rfl rfl rfl rfl hil (Nat.zero_add _))) <| st0 (by exact ⟨rfl, rfl, (by exact AStepD.store' (k := 1) (cs := (exT i).tab) (ys := [.v (.int .i64 1)]) (zs := ({ exT i with own := (exT i).own.set i 1 } : Stt).tab) tok rfl rfl g1 rfl rfl qU22 rfl rfl rfl (by omega) (tab_own ok hil 1))⟩) <| st (by exact SD.s rfl rfl rfl qU23) <| st (by exact SD.s rfl rfl rfl (by exact AStepD.indexAddr_arr' (i := i) (off' := 64 + i * 1) tok rfl rfl rfl rfl rfl rfl rfl rfl hil rfl)) <| st0 (by exact ⟨rfl, rfl, (by exact AStepD.store' (k := 1) (cs := ({ exT i with own := (exT i).own.set i 1 } : Stt).tab) (ys := [.v (.int .i64 1)]) (zs := ({ exT i with own := (exT i).own.set i 1, epo := (exT i).epo.set i 1 } : Stt).tab) tok rfl rfl qU121 rfl rfl qU22 rfl rfl rfl (by omega) (tab_epo ok2 hil 1))⟩) <| AL.nil ?_
    refine hK3 _ _ ?_; try clear hK3 K3
    refine AW.region ?_
    refine st (by exact SD.s rfl rfl rfl (by first | exact AStepD.add rfl rfl rfl (by first | exact IntWalk.i64_in _ (by omega) | exact IntWalk.i64_in _ (by simp only [Bool.or_eq_true, Bool.and_eq_true, Bool.or_eq_false_iff, Bool.and_eq_false_iff, Bool.not_eq_true', Bool.not_eq_false', decide_eq_true_eq, decide_eq_false_iff_not, Int.not_lt, Int.not_le, beq_iff_eq] at *; omega) | exact rfl) | exact AStepD.str_add rfl rfl rfl (by omega))) <| st qU136 <| AL.nil ?_
    refine ⟨i + 1, by omega, qU131, hil, ?_, qU121, qU118, qU110⟩
    rw [← hnx]; exact AHeap.get_set_same _ _ _
  (try simp only [Bool.or_eq_true, Bool.and_eq_true, Bool.or_eq_false_iff, Bool.and_eq_false_iff, Bool.not_eq_true', Bool.not_eq_false', decide_eq_true_eq, decide_eq_false_iff_not, Int.not_lt, Int.not_le] at hc)
  obtain rfl : i = 64 := by omega
  have ok := exT_ok hi
  have hf := ok.ft
  refine AW.exit ?_
  refine hK1 _ _ ?_; try clear hK1 K1 hK2 K2
  refine rg fun K hK => ?_
  refine st (by exact SD.s rfl rfl rfl (by exact AStepD.val (AStepD.build tok rfl rfl rfl (by decide) rfl ex_one1) (y := .agg [.v (.int .i64 1), .v (.int .i64 0), .v (.int .i64 1)]) rfl)) <| st (by exact SD.s rfl rfl rfl (by exact AStepD.val (AStepD.build tok rfl rfl rfl (by decide) rfl ex_one2) (y := .agg (c (⟨2, 0, 0⟩ : Kn))) rfl)) <| st (by exact SD.s rfl rfl rfl (by exact AStepD.vec_flat (l := [(⟨2, 0, 0⟩ : Kn)]) (AStepD.buildSlice1 tok rfl rfl rfl rfl (show _ = 3 from rfl) qU11 qU11 rfl (by decide) qU116) rfl rfl rfl)) <| st (by exact SD.s rfl rfl rfl (by exact AStepD.load_agg (cs := (exT 64).tab) (zs := exS.tab) tok rfl rfl rfl qU121 rfl (show _ = 128 from rfl) (by omega) (by rw [List.drop_zero, List.take_of_length_le (by omega)]; rfl))) <| st (by exact SD.s rfl rfl rfl (by exact AStepD.build (cs := exS.cs (vecA exS.known)) tok rfl rfl rfl (by decide) ex_fill ex_one3)) <| st0 (by exact ⟨rfl, rfl, (by exact AStepD.store' (k := 134) (cs := zS.cs (.v (.slice none 0 0))) (ys := exS.cs (vecA exS.known)) (zs := exS.cs (vecA exS.known)) tok rfl rfl qU121 rfl rfl (exS.cs_one rfl) rfl (exS_ok.fc _) rfl (by rw [zS_ok.fc]; omega) (over_all (by rw [zS_ok.fc, exS_ok.fc]; rfl)))⟩) <| nt (hK _ _ ?_)
  clear hK K
  refine AW.ret (RetQ.mk (.inr rfl) (retA_agg (cs := exS.cs (vecA exS.known)) (zs := exS.cs (vecA exS.known)) rfl rfl rfl qU121 rfl (show _ = 134 from rfl) (by rw [exS_ok.fc]; omega) (by rw [List.drop_zero]; exact List.take_of_length_le (by rw [exS_ok.fc]; omega)) retA_nil) ⟨?_, qU118⟩)
  rfl
theorem anchor_calls (H : AHeap) : ACalls Tryz.prog 9 [] H (fun r H' => r = .v (.bool true) ∧ H' = H) := by
  refine ACalls.quiet_keep ?_ (.v _)
  refine ACalls.of_body tok Tryz.func9 rfl Tryz.ntmps9 (Nat.le_of_ble_eq_true rfl) (fun base => ?_)
  refine rg fun K hK => ?_
  refine st qU133 <| nt (hK _ _ ?_)
  clear hK K
  refine rg fun K hK => ?_
  refine st (by exact SD.s rfl rfl rfl (by exact AStepD.callf rfl en18 rfl (example_calls _))) <| st (by exact SD.s rfl rfl rfl (by exact AStepD.val (AStepD.callf rfl en11 rfl (statetext_calls _ exS exS_ok)) (y := .tup [strA exText, .v (.int .i64 0)]) (by rw [ex_right, if_pos rfl, if_pos rfl, ex_doc]))) <| st qU136 <| st qU27 <| st qU27 <| st qU133 <| st qU133 <| nt (hK _ _ ?_)
  clear hK K
  refine rg fun K hK => ?_
  refine st (by exact SD.s rfl rfl rfl (by exact AStepD.val (AStepD.callf rfl en14 rfl (parseS_calls _ exText (by decide))) (y := .tup [stA exS, .v (.int .i64 0)]) (by rw [ex_parse]; rfl))) <| st qU136 <| st qU27 <| st qU27 <| st qU26 <| st0 (by exact ⟨rfl, rfl, (by exact AStepD.store' (k := 134) (cs := zS.cs (.v (.slice none 0 0))) (ys := exS.cs (vecA exS.known)) (zs := exS.cs (vecA exS.known)) tok rfl rfl (by rw [← zS_zero]; exact AHeap.get_new_same _ _) rfl rfl (exS.cs_one rfl) rfl (exS_ok.fc _) rfl (by rw [zS_ok.fc]; omega) (over_all (by rw [zS_ok.fc, exS_ok.fc]; rfl)))⟩) <| st qU133 <| nt (hK _ _ ?_)
  clear hK K
  refine AW.seq_k (fun K hK => ?_)
  apply AW.draw mixed [_, _, _, _, _, _, _, _, _, _, _, _, _, _, _, _] [] [_] [(0, 0), (1, 0), (2, 0), (3, 0), (4, 0), (5, 0), (6, 0), (7, 0), (8, 0), (9, 0), (10, 0), (11, 0), (12, 0), (13, 0), (14, 0), (15, 0)] rfl rfl rfl (by simp only [List.getD_cons_zero, List.getD_cons_succ]; all_goals apply Eq.refl)
  · refine ⟨?_, ?_, ?_, ?_, ?_, ?_, ?_, ?_, ?_, ?_, ?_, ?_, ?_, ?_, ?_, ?_⟩
    · refine Ob.mk _ [2] 0 rfl rfl (restr_cons qU11 restr_nil) rfl ?_
      simp only [List.getD_cons_zero, List.getD_cons_succ]
      exact GStep.plain rfl qU122
    · refine Ob.mk _ [14] 0 rfl rfl (restr_cons qU11 restr_nil) rfl ?_
      simp only [List.getD_cons_zero, List.getD_cons_succ]
      exact GStep.plain rfl qU25
    · refine Ob.mk _ [15] 0 rfl rfl (restr_cons qU11 restr_nil) rfl ?_
      simp only [List.getD_cons_zero, List.getD_cons_succ]
      exact GStep.plain rfl qU122
    · refine Ob.mk _ [1, 16] 0 rfl rfl (restr_cons qU11 (restr_cons qU11 restr_nil)) rfl ?_
      simp only [List.getD_cons_zero, List.getD_cons_succ]
      first | exact GStep.yes rfl rfl rfl rfl rfl qU122 | exact GStep.no rfl rfl rfl rfl rfl | exact GStep.none rfl rfl rfl | exact GStep.may rfl rfl rfl rfl (fun hb => by (try (apply AStepD.uncond 1 rfl (gpf hb))); exact qU122) | exact GStep.may2 rfl rfl rfl rfl (fun _ hb => by (try (apply AStepD.uncond 1 rfl (gpf hb))); exact qU122)
    · refine Ob.mk _ [17, 16] 0 rfl rfl (restr_cons qU11 (restr_cons qU11 restr_nil)) rfl ?_
      simp only [List.getD_cons_zero, List.getD_cons_succ]
      first | exact GStep.yes rfl rfl rfl rfl rfl (by exact AStepD.bool (AStepD.str_eql rfl rfl rfl) (c := true) (decide_eq_true rfl)) | exact GStep.no rfl rfl rfl rfl rfl | exact GStep.none rfl rfl rfl | exact GStep.may rfl rfl rfl rfl (fun hb => by (try (apply AStepD.uncond 17 rfl (gpf hb))); exact (by exact AStepD.bool (AStepD.str_eql rfl rfl rfl) (c := true) (decide_eq_true rfl))) | exact GStep.may2 rfl rfl rfl rfl (fun _ hb => by (try (apply AStepD.uncond 17 rfl (gpf hb))); exact (by exact AStepD.bool (AStepD.str_eql rfl rfl rfl) (c := true) (decide_eq_true rfl)))
    · refine Ob.mk _ [16, 18] 0 rfl rfl (restr_cons qU11 (restr_cons qU11 restr_nil)) rfl ?_
      simp only [List.getD_cons_zero, List.getD_cons_succ]
      exact GStep.plain rfl qU126
    · refine Ob.mk _ [19] 0 rfl rfl (restr_cons qU11 restr_nil) rfl ?_
      simp only [List.getD_cons_zero, List.getD_cons_succ]
      exact GStep.plain rfl qU122
    · refine Ob.mk _ [4, 20] 0 rfl rfl (restr_cons qU11 (restr_cons qU11 restr_nil)) rfl ?_
      simp only [List.getD_cons_zero, List.getD_cons_succ]
      first | exact GStep.yes rfl rfl rfl rfl rfl qU122 | exact GStep.no rfl rfl rfl rfl rfl | exact GStep.none rfl rfl rfl | exact GStep.may rfl rfl rfl rfl (fun hb => by (try (apply AStepD.uncond 4 rfl (gpf hb))); exact qU122) | exact GStep.may2 rfl rfl rfl rfl (fun _ hb => by (try (apply AStepD.uncond 4 rfl (gpf hb))); exact qU122)
    · refine Ob.mk _ [21, 20] 0 rfl rfl (restr_cons qU11 (restr_cons qU11 restr_nil)) rfl ?_
      simp only [List.getD_cons_zero, List.getD_cons_succ]
      first | exact GStep.yes rfl rfl rfl rfl rfl qU25 | exact GStep.no rfl rfl rfl rfl rfl | exact GStep.none rfl rfl rfl | exact GStep.may rfl rfl rfl rfl (fun hb => by (try (apply AStepD.uncond 21 rfl (gpf hb))); exact qU25) | exact GStep.may2 rfl rfl rfl rfl (fun _ hb => by (try (apply AStepD.uncond 21 rfl (gpf hb))); exact qU25)
    · refine Ob.mk _ [20, 22] 0 rfl rfl (restr_cons qU11 (restr_cons qU11 restr_nil)) rfl ?_
      simp only [List.getD_cons_zero, List.getD_cons_succ]
      exact GStep.plain rfl qU126
    · refine Ob.mk _ [23] 0 rfl rfl (restr_cons qU11 restr_nil) rfl ?_
      simp only [List.getD_cons_zero, List.getD_cons_succ]
      exact GStep.plain rfl qU122
    · refine Ob.mk _ [3, 24] 0 rfl rfl (restr_cons qU11 (restr_cons qU11 restr_nil)) rfl ?_
      simp only [List.getD_cons_zero, List.getD_cons_succ]
      first | exact GStep.yes rfl rfl rfl rfl rfl (by exact AStepD.load_agg (cs := exS.cs (vecA exS.known)) (zs := exS.cs (vecA exS.known)) tok rfl rfl rfl qU121 rfl (show _ = 134 from rfl) (by rw [exS_ok.fc]; omega) (by rw [List.drop_zero]; exact List.take_of_length_le (by rw [exS_ok.fc]; omega))) | exact GStep.no rfl rfl rfl rfl rfl | exact GStep.none rfl rfl rfl | exact GStep.may rfl rfl rfl rfl (fun hb => by (try (apply AStepD.uncond 3 rfl (gpf hb))); exact (by exact AStepD.load_agg (cs := exS.cs (vecA exS.known)) (zs := exS.cs (vecA exS.known)) tok rfl rfl rfl qU121 rfl (show _ = 134 from rfl) (by rw [exS_ok.fc]; omega) (by rw [List.drop_zero]; exact List.take_of_length_le (by rw [exS_ok.fc]; omega)))) | exact GStep.may2 rfl rfl rfl rfl (fun _ hb => by (try (apply AStepD.uncond 3 rfl (gpf hb))); exact (by exact AStepD.load_agg (cs := exS.cs (vecA exS.known)) (zs := exS.cs (vecA exS.known)) tok rfl rfl rfl qU121 rfl (show _ = 134 from rfl) (by rw [exS_ok.fc]; omega) (by rw [List.drop_zero]; exact List.take_of_length_le (by rw [exS_ok.fc]; omega))))
    · refine Ob.mk _ [24] 0 rfl rfl (restr_cons qU11 restr_nil) rfl ?_
      simp only [List.getD_cons_zero, List.getD_cons_succ]
      first | exact GStep.yes rfl rfl rfl rfl rfl (by exact AStepD.callf rfl en18 rfl (example_calls _)) | exact GStep.no rfl rfl rfl rfl rfl | exact GStep.none rfl rfl rfl | exact GStep.may rfl rfl rfl rfl (fun hb => by exact (by exact AStepD.callf rfl en18 rfl (example_calls _))) | exact GStep.may2 rfl rfl rfl rfl (fun _ hb => by exact (by exact AStepD.callf rfl en18 rfl (example_calls _)))
    · refine Ob.mk _ [25, 26, 24] 0 rfl rfl (restr_cons qU11 (restr_cons qU11 (restr_cons qU11 restr_nil))) rfl ?_
      simp only [List.getD_cons_zero, List.getD_cons_succ]
      first | exact GStep.yes rfl rfl rfl rfl rfl (by exact AStepD.bool (AStepD.callf rfl en16 rfl (same_calls _ exS exS exS_ok exS_ok)) (c := true) (decide_eq_true rfl)) | exact GStep.no rfl rfl rfl rfl rfl | exact GStep.none rfl rfl rfl | exact GStep.may rfl rfl rfl rfl (fun hb => by (try (apply AStepD.uncond 25 rfl (gpf hb))); (try (apply AStepD.uncond 26 rfl (gpf hb))); exact (by exact AStepD.bool (AStepD.callf rfl en16 rfl (same_calls _ exS exS exS_ok exS_ok)) (c := true) (decide_eq_true rfl))) | exact GStep.may2 rfl rfl rfl rfl (fun _ hb => by (try (apply AStepD.uncond 25 rfl (gpf hb))); (try (apply AStepD.uncond 26 rfl (gpf hb))); exact (by exact AStepD.bool (AStepD.callf rfl en16 rfl (same_calls _ exS exS exS_ok exS_ok)) (c := true) (decide_eq_true rfl)))
    · refine Ob.mk _ [24, 27] 0 rfl rfl (restr_cons qU11 (restr_cons qU11 restr_nil)) rfl ?_
      simp only [List.getD_cons_zero, List.getD_cons_succ]
      exact GStep.plain rfl qU126
    · refine Ob.mk _ [28] 0 rfl rfl (restr_cons qU11 restr_nil) rfl ?_
      simp only [List.getD_cons_zero, List.getD_cons_succ]
      exact GStep.plain rfl qU119
  refine hK _ _ ?_; clear hK K
  refine AW.frame (by simp only [frameAt, putA]; all_goals exact rfl) (by simp only [List.length_cons, List.length_nil, Nat.zero_add, Nat.reduceAdd, List.getD_cons_zero, List.getD_cons_succ]; all_goals apply Eq.refl) ?_
  refine AW.ret (RetQ.mk (.inr rfl) (retA_tmp rfl qU11 retA_nil) ⟨?_, qU18⟩)
  rfl
end Go.Proofs.YtbcanlmpfhkklaaGreatDoor
