/- A word more behind a command that isn't about a key, a blank ahead of it, or one more behind, makes it none. No condition. The card leans on what the row lists: the library's variables as the program's text lays them. -/
import Derived.Test.YtlkbckffeegikaaDoorCBase
import Derived.Test.YtlkbckffeegikaaDoorCE5
set_option linter.unusedSimpArgs false
set_option linter.unusedVariables false
namespace Go.Proofs.YtlkbckffeegikaaDoor
open Go.Ax
open Cel (c)
open Go

theorem weights_agg {H : Type} {P : Program} {t : TypeId} {fs : Array Field} (ht : P.underlying t = some (.struct fs)) (parts : List (DataW H)) : (DataW.agg parts).weights P t = DataW.weightsEach P (fs.toList.map (·.type)) parts := by
  rw [DataW.weights, ht]
theorem weights_last {H : Type} {P : Program} {t0 t1 t2 t3 : TypeId} {a b d : DataW H} {bs : List UInt8} {N : Nat} (h : (DataW.weightsEach P [t0, t1, t2, t3] [a, b, d, .lit (.string bs)]).all (· ≤ N) = true) : bs.length ≤ N := by
  simp only [DataW.weightsEach, DataW.weights, List.all_append, Bool.and_eq_true, List.all_cons, List.all_nil, decide_eq_true_eq, and_true] at h
  exact h.2.2.2
/-- The key that comes in is no longer than what a reading reaches. -/
theorem key_reach {H : Type} {enc : TypeId × Value → H} {W : World} {v : Value} {d : DataW H} {ps : List MemPlace} {sp : Nat → Bool} (h : DataW.Trod enc Tryd.prog W 0 sp true 26 v d ps) (hz : (d.weights Tryd.prog 26).all (· ≤ reachBytes) = true) {a b n : Int} {s : ByteArray} (hv : v = .agg #[.int .i64 a, .int .i64 b, .int .u64 n, .string s]) : s.size ≤ reachBytes := by
  subst hv
  obtain ⟨fuel, hd⟩ := h
  obtain ⟨xs, m, _, hx, _, hl, hall⟩ := DataW.trod_struct Tryd.underlying26 hd
  have h3 := hall 3 _ rfl
  obtain ⟨x0, x1, x2, x3, rfl⟩ : ∃ a b c d, xs = [a, b, c, d] := by
    match xs, hl with
    | [a, b, c, d], _ => exact ⟨a, b, c, d, rfl⟩
  have c9 : Tryd.prog.cellsOf 9 = 1 := by kernel_rfl
  change DataW.trod enc Tryd.prog W 0 sp true m 9 (([.int .i64 a, .int .i64 b, .int .u64 n, .string s].drop 3).take (Tryd.prog.cellsOf 9)) = some x3 at h3
  rw [c9] at h3
  obtain ⟨s', e1, e2, _⟩ := DataW.trod_string Tryd.underlying9 h3
  simp only [List.drop_succ_cons, List.drop_zero, List.take_succ_cons, List.take_zero, List.cons.injEq, Value.string.injEq, and_true] at e1
  subst e1
  have ed : d = .agg [x0.1, x1.1, x2.1, .lit (.string s.data.toList)] := by
    have := congrArg Prod.fst hx
    simpa [e2] using this
  subst ed
  rw [weights_agg Tryd.underlying26] at hz
  have := weights_last (P := Tryd.prog) hz
  simpa using this

set_option maxRecDepth 100000 in
theorem commandMore_lifted (os : Os) (started : os.Started) (H : Type) (enc : TypeId × Value → H) :
    ReturnsInHanded {} Tryd.checked os 6 .any (fun w args => (Rows.commandMoreSpec.pre enc Tryd.prog Tryd.f6 Rows.commandMoreRow.domain false w args ∧ laidMetH Tryd.prog laidL w) ∧ sizedMet enc Tryd.prog Tryd.f6 (OpenSpec.ofChange Rows.commandMoreSpec) false w args)
      (Rows.commandMoreSpec.post enc Tryd.prog Tryd.f6 false true false false) := by
  refine returnsInHanded_of_change_and (C := Tryd.checked) (X := fun w _ => laidMetH Tryd.prog laidL w) (fun _ _ _ hh h => h.of_heap hh) ownNone started (by kernel_rfl) Tryd.func6
    (ChangeSpec.witness_shaped (enc := enc) (C := Tryd.checked) (os := os) (X := fun w _ => laidMetH Tryd.prog laidL w) false (World.laidAll Tryd.prog os laidL) #[.agg #[.int .i64 0, .int .i64 0, .int .u64 0, .string ⟨#[]⟩], .string ⟨#[]⟩] 8 (World.laidAll_os _ _ _)
      (world_shaped os _) (by kernel_rfl) (by kernel_rfl) (by kernel_rfl) (world_met os _)) ?_
  intro W base args ds gs before hval hW _ hz hL _
  have hkey : ∀ a b n s, args.toList[0]? = some (.agg #[.int .i64 a, .int .i64 b, .int .u64 n, .string s]) → s.size ≤ reachBytes := by
    intro a b n s h0
    obtain ⟨p, q, hA, hV, _, _, _⟩ := hW
    have hA2 : DataW.TrodAll enc Tryd.prog W 0 (fun _ => true) true [26, 9] args.toList ds p := hA
    cases hal : args.toList with
    | nil => rw [hal] at h0; cases h0
    | cons v0 vr =>
      rw [hal] at h0 hA2
      cases ds with
      | nil => exact hA2.elim
      | cons d0 dr =>
        obtain ⟨p0, q0, t0, _, _⟩ := hA2
        have hz2 : (DataW.weightsEach Tryd.prog (26 :: ([9] ++ (ChangeSpec.plain Rows.commandMoreSpec).varTypes Tryd.prog)) (d0 :: (dr ++ gs))).all (· ≤ reachBytes) = true := hz
        rw [DataW.weightsEach, List.all_append, Bool.and_eq_true] at hz2
        exact key_reach t0 hz2.1 (by simpa using h0)
  refine law_contractV tok laidOut (ts := [26, 9]) (tb := 4) 8 (by kernel_rfl) (by kernel_rfl) (by kernel_rfl) (by kernel_rfl) rfl ?_ ?_ hval hW (glob_ok hL)
  · intro ds hd
    match ds, hd with
    | [d1, d2], _ => exact ⟨rfl, rfl, rfl⟩
  · intro xs hl ha hcv
    obtain ⟨a0, a1, rfl⟩ := two hl
    obtain ⟨x0, rfl, b0⟩ := ln_of (ha 0 26 a0 rfl rfl)
    obtain ⟨x1, rfl⟩ := str_of_arg (ha 1 9 a1 rfl rfl)
    refine more_law AHeap.empty x0 x1 b0 ?_
    have h0 : 0 < args.toList.length := by
      have := hcv.1
      simp only [List.length_cons, List.length_nil] at this
      omega
    have hv := hcv.2 0 _ _ rfl (List.getElem?_eq_getElem h0)
    have hag : args.toList[0] = .agg #[.int .i64 x0.kind, .int .i64 x0.id, .int .u64 (x0.set.toNat : Nat), .string (str x0.key)] := by
      have e : (.agg (c x0) : AV) = .agg ((lnV x0).map .v) := rfl
      rw [e] at hv
      generalize args.toList[0] = u at hv
      cases hv with
      | agg g1 g2 => rw [vals_of g1 g2]; rfl
    have := hkey _ _ _ _ ((List.getElem?_eq_getElem h0).trans (congrArg some hag))
    rw [str_size] at this
    exact Nat.le_trans this (by decide)

theorem commandMore_holds : Rows.CommandMoreSaid :=
  OpenClaim.holds_of_wide 6 Tryd.f6 rfl rfl rfl rfl rfl rfl rfl ⟨rfl, rfl, rfl, rfl, rfl⟩ rfl rfl rfl rfl rfl (by kernel_rfl) Tryd.func6 (by kernel_rfl)
    (of_decide_eq_true (by kernel_rfl)) (by unfold Func.isWrapper; first | (rw [if_pos (by decide +kernel)]; kernel_rfl) | (rw [if_neg (by decide +kernel)]; exact ⟨rfl, rfl⟩))
    (fun os started H enc _ => commandMore_lifted os started H enc)
theorem commandMoreCard_holds : Rows.CommandMoreCardSaid :=
  Claim7.holds_tied_plain_at .later [] [.data, .data, .data, .data, .sentinel, .sentinel, .pinned] true (true, "634eab36823d0310a0a0c4cb5f108f9b999e972214137ad3dfc78f19dc806942") true commandMore_holds (fun _ h => by cases h) (by kernel_rfl) (fun _ h => by cases h) commandMore_row_tie rfl ⟨rfl, rfl⟩ (by kernel_rfl) rfl
    (fun f fn hf hfn => by
      obtain rfl : f = 6 := Option.some.inj ((show Tryd.prog.funcNamed "grapevine/grapevinelaw17.CommandMore" = some 6 by kernel_rfl).symm.trans hf) |>.symm
      obtain rfl : fn = Tryd.f6 := (Option.some.inj (Tryd.func6.symm.trans hfn)).symm
      exact ⟨by kernel_rfl, fun j t ht => by
        have hp : Tryd.f6.params = #[26, 9] := by kernel_rfl
        rw [hp] at ht
        have hm : t ∈ [26, 9] := by simpa using Array.mem_of_getElem? ht
        have hall : ([26, 9].all fun u => !Tryd.prog.wantsStandIn u) = true := by kernel_rfl
        exact (show Tryd.prog.wantsStandIn t = false by simpa using List.all_eq_true.1 hall t hm)⟩)
    (by kernel_rfl)
end Go.Proofs.YtlkbckffeegikaaDoor
