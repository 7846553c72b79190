/- The walks of slices.AppendSeq, Collect, SortFunc, SortedFunc over replicas. -/
import Derived.Test.YtmjookofajlcoaaA
import Derived.Test.YtmjookofajlcoaaS
namespace Go.Proofs.Ytmjookofajlcoaa
open Go.Ax
open Cel (c)
theorem qB1 {p : Prop} (h : p := by first | exact one_cells (by with_reducible assumption) | exact qA1) : p := h
theorem qB2 {p : Prop} (h : p := by first | exact AStepD.load_one tok rfl rfl rfl rfl qA14 rfl qA4 | exact AStepD.load_one_ip tok rfl rfl rfl rfl rfl qA4) : p := h
theorem qB3 {p : Prop} (h : p := by simp only [List.flatMap_cons, List.flatMap_nil, cells_v, cells_any, cells_ptr, cells_ip, cells_sl, cells_vec, cells_map, cells_func, cells_agg, cells_iface, List.cons_append, List.nil_append, List.append_nil]; all_goals exact rfl) : p := h
theorem qB4 {p : Prop} (h : p := by first | with_reducible assumption | exact (by assumption : ∀ o, Src _ _ _ _ _) _ | exact Src.vec | exact Src.nil | exact Src.all qA14 qA7 | exact Src.sl qA14 qA9) : p := h
theorem qB5 {p : Prop} (h : p := by first | exact List.nil_append _ | exact rfl) : p := h
theorem qB6 {p : Prop} (h : p := by exact AStepD.store' tok rfl rfl qA14 qA1 qB1 qA2 rfl qA1 rfl qA9 qA11) : p := h
theorem qB7 {p : Prop} (h : p := by first | exact AStepD.buildSlice0 tok rfl rfl rfl rfl (show _ = 2 from rfl) | exact AStepD.buildSlice1 tok rfl rfl rfl rfl (show _ = 2 from rfl) qA1 qA1 qA7 (by decide) qA2 | exact AStepD.buildSlice_seq tok rfl rfl rfl rfl (show _ = 2 from rfl) (map_p qA1 map_n) rfl (by decide) (by decide) rfl qB3 qA2 | exact AStepD.buildSlice tok rfl rfl rfl rfl qA1 (by decide) (by decide) rfl qA2) : p := h
set_option linter.unusedSimpArgs false
set_option linter.unusedVariables false

theorem appendSeq_calls (H : AHeap) (l : List Rep) (gf : FuncId) (lb : List AV) (pr : Nat → Prop) (he : Enters Try.prog gf) (hs : ASeq Try.prog gf lb (l.map fun r => .agg (c r)) pr H) (hlen : l.length ≤ 8000000) :
    ACalls Try.prog 30 [.v (.slice none 0 0), .func (.func gf) lb] H (fun y H' => Lst 29 H.next H' y l ∧ (∀ q, q < H.next → ¬ pr q → H'.get q = H.get q) ∧ H.next ≤ H'.next) := by
  have hlm : (l.map fun r => AV.agg (c r)).length = l.length := by simp
  refine ACalls.of_body tok Try.func30 rfl Try.ntmps30 (Nat.le_of_ble_eq_true rfl) (fun base => ?_)
  refine AW.seq_region (fun K hK => ?_)
  refine AL.step rfl rfl rfl (by first | exact AStepD.box1 rfl qA1 (by first | exact rfl | with_reducible assumption | exact Lst.one (by assumption)) | exact AStepD.box rfl qA1 qA2) ?_
  refine AL.step rfl rfl rfl qA13 ?_
  refine AL.nil_then (hK _ _ ?_); clear hK K
  refine AW.seq_k (fun K1 hK1 => ?_)
  refine AW.seq_region (fun K hK => ?_)
  refine AL.step rfl rfl rfl qA16 ?_
  refine AL.nil_then (hK _ _ ?_); clear hK K
  refine AW.block ?_
  have hpr := hs.1
  refine AW.rangeFunc rfl he (by decide) (hs.later (H1 := H.new (.cells 22 [.v (.slice none 0 0)])) (Nat.le_succ _) fun q hq => AHeap.get_new_ne _ _ (by have := hpr q hq; omega))
    (fun i H' => ∃ y, H'.get H.next = some (.cells 22 [y]) ∧ Lst 29 (H.next + 2) H' y (l.take i) ∧ (∀ q, q < H.next → ¬ pr q → H'.get q = H.get q) ∧ H.next + 1 ≤ H'.next)
    (fun _ _ => False) ?_ (fun _ _ _ h _ => h.elim) ?_ ?_ ?_ (fun _ _ h _ _ => h.elim)
  · rintro i A B ⟨y, h1, h2, h3, h4⟩ ⟨hs1, hs2⟩
    have hnp : ¬ pr H.next := fun h => by have := hpr _ h; omega
    refine ⟨y, (hs1 _ (by omega) ?_).trans h1, h2.keep (fun D hD hN _ => hs1 D hN ?_) hs2, fun q hq hp => (hs1 q (by omega) ?_).trans (h3 q hq hp), Nat.le_trans h4 hs2⟩
    · rintro (h | h)
      · exact hnp h
      · simp only [zc] at h; omega
    · rintro (h | h)
      · have := hpr _ h; omega
      · simp only [zc] at h; omega
    · rintro (h | h)
      · exact hp h
      · simp only [zc] at h; omega
  · refine ⟨_, AHeap.get_new_same _ _, .nil, fun q hq _ => AHeap.get_new_ne _ _ (by omega), Nat.le_refl _⟩
  · rintro lp i H1 hi ⟨y, h1, h2, h3, h4⟩ hn1
    simp only [List.getElem_map]
    have hi : i < l.length := by simpa using hi
    have hy1 := h2.one
    refine AW.region ?_
    refine AL.step rfl rfl rfl (by exact AStepD.alloc tok rfl rfl) ?_
    refine AL.step0 rfl rfl qB6 ?_
    refine AL.nil ?_
    refine AW.block ?_
    refine AW.region ?_
    refine AL.step rfl rfl rfl qB2 ?_
    refine AL.step rfl rfl rfl qA20 ?_
    refine AL.step rfl rfl rfl qB7 ?_
    refine AL.step rfl rfl rfl (by first | exact AStepD.append_lst (bk := 64) tok rfl qA1 (by first | with_reducible assumption | exact Lst.keep (by with_reducible assumption) (fun D _ _ _ => qA19) qA12) rfl rfl rfl rfl rfl rfl (show _ = 2 from rfl) rfl rfl qB4 rfl qA7 qA2 qA7 qA7 qA8 qB5 | exact AStepD.append' (bk := 64) tok rfl rfl rfl rfl rfl rfl rfl rfl (show _ = 2 from rfl) rfl qA14 rfl qA7 qB4 qA7 qA2 qA7 qA7 qA8 qB5 | exact AStepD.append_nil' (bk := 64) tok rfl rfl rfl rfl rfl rfl rfl rfl (show _ = 2 from rfl) rfl qB4 qA7 qA7 qA7 qA7) ?_
    refine AL.step0 rfl rfl qB6 ?_
    refine AL.nil ?_
    have htn := take_next l i hi
    refine ⟨⟨fun q hq hlt => ?_, qA12⟩, _, qA14, Lst.mk qA12 qA12 qA14 (by rw [htn, flat_append, flat_one]; rfl) (by rw [htn, List.length_append]; rfl) rfl, fun q hq hp => Eq.trans qA19 (h3 q hq hp), qA12⟩
    have hq : q < H.next ∨ q = H.next + 1 := hq.imp (hpr q) id
    have hq2 : q < H.next + 2 := by omega
    have hq3 : q ≠ H.next := by omega
    exact qA19
  · rintro H1 ⟨y, h1, h2, h3, h4⟩ hn1
    have hy1 := h2.one
    rw [List.take_of_length_le (by simp)] at h2
    refine hK1 _ _ ?_; clear hK1 K1
    refine AW.seq_region (fun K hK => ?_)
    refine AL.step rfl rfl rfl qB2 ?_
    refine AL.step rfl rfl rfl qA13 ?_
    refine AL.nil_then (hK _ _ ?_); clear hK K
    refine AW.ret (RetQ.mk (.inr rfl) (retA_tmp rfl qA1 retA_nil) ⟨h2.down (by omega), h3, by omega⟩)
end Go.Proofs.Ytmjookofajlcoaa
