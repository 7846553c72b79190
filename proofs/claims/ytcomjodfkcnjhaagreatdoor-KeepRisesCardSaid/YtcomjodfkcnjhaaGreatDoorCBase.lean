/- What the rows of the states share: what the listed variables hold, a world in which they are laid, how arguments read. -/
import Derived.Test.YtcomjodfkcnjhaaGreatDoorCK2
import Derived.Test.YtcomjodfkcnjhaaGreatDoorTie
import Derived.Test.YtcomjodfkcnjhaaGreatDoorCards
import Derived.ChangeVars
import Derived.JoinedOf
import Derived.RowKit
import Derived.LaidLaws
import Derived.LaidMore
import Derived.Lay
import Derived.MakeChecks
import Derived.SevenTiedAt
import Derived.Stop.Joined
import Derived.Stop.LaidErr
import Derived.Lib.LaidTab
import Derived.Shelf.LaysM
set_option linter.unusedSimpArgs false
set_option linter.unusedVariables false
namespace Go.Proofs.YtcomjodfkcnjhaaGreatDoor
open Go.Ax
open Cel (c)
open Go

abbrev laidL : List (String × DataW Unit) := Rows.keepBackRow.laid
theorem star : "*" ++ "errors.errorString" = "*errors.errorString" := by decide
theorem row198 (u : TypeId) (h : Tryz.prog.typeName? 3 u = some "*errors.errorString") : u = 198 :=
  typeName_ptr_named (nm := "errors.errorString") (by rw [star]; kernel_rfl) (by kernel_rfl) (by decide) u (by rw [star]; exact h)
theorem plainH (W : World) : laidMetH Tryz.prog laidL W = laidMet Tryz.prog laidL W := MakeChecks.laidMetH_plain _ _ _ (by kernel_rfl)
theorem tabEq : (Rows.laid_math_bits_deBruijn64tab : DataW Unit) = Lib.tabData .u8 (Lib.deBruijn64tab.map fun (n : Nat) => (n : Int)) := by kernel_rfl
theorem powEq : (Rows.laid_internal_strconv_uint64pow10 : DataW Unit) = Lib.tabData .u64 Lib.pow10Tab := by kernel_rfl
theorem var_imm {W : World} {n : String} {g : Nat} {cs : Array Value} (hg : Tryz.prog.globalNamed n = some g) (h : W.var? Tryz.prog n = some cs) : immOf W g = some cs := by
  unfold World.var? at h
  rw [hg] at h
  simp only [Option.bind_some] at h
  unfold immOf
  split at h
  · rename_i arr t fz e
    rw [e]
    simpa using h
  · cases h
theorem cvs_map {ρ : Rho} {I : Imm} (k : IntKind) : ∀ zs : List Int, CVs ρ I (zs.map fun n => .v (.int k n)) (zs.map fun n => Value.int k n)
  | [] => .nil
  | _ :: r => .cons (.v _) (cvs_map k r)
theorem max_ok {W : World} (hS : W.ShapedOpen Tryz.prog) : ∃ arr, immOf W 1 = some arr ∧ CVs noRho (immOf W) [.num .i64] arr.toList := by
  obtain ⟨m, hm⟩ := Go.Proofs.cell_of_shapedOpen_int (zero := #[.int .i64 0]) (t := 3) (g := 1) hS (of_decide_eq_true (by kernel_rfl)) (by kernel_rfl) rfl (by kernel_rfl) (by kernel_rfl) Tryz.underlying3
  obtain ⟨cs, hh, hs, _⟩ := hS.1 1 #[.int .i64 0] 3 (of_decide_eq_true (by kernel_rfl)) (by kernel_rfl)
  refine ⟨cs, by unfold immOf; rw [hh], ?_⟩
  have h1 : cs.size = 1 := hs
  have h2 : cs[0]? = some (.int .i64 m) := by simpa [World.cell?, hh] using hm
  have h3 : cs.toList = [.int .i64 m] := by
    refine List.ext_getElem? fun i => ?_
    rw [Array.getElem?_toList]
    match i with
    | 0 => exact h2
    | i + 1 => rw [Array.getElem?_eq_none (by omega)]; rfl
  rw [h3]
  exact .cons (.num m) .nil
theorem glob_ok {W : World} (h0 : laidMetH Tryz.prog laidL W) (hS : W.ShapedOpen Tryz.prog) : GlobOK W := by
  rw [plainH] at h0
  have h1 : laidMet Tryz.prog (("math/bits.deBruijn64tab", Rows.laid_math_bits_deBruijn64tab) :: [("internal/strconv.uint64pow10", Rows.laid_internal_strconv_uint64pow10), ("unicode/utf8.acceptRanges", Rows.laid_unicode_utf8_acceptRanges), ("strconv.ErrRange", Rows.laid_strconv_ErrRange), ("strconv.ErrSyntax", Rows.laid_strconv_ErrSyntax), ("unicode/utf8.first", Rows.laid_unicode_utf8_first)]) W := h0.tail
  have h5 := h1.tail
  have h2 := h1.tail.tail.tail
  have h3 := h2.tail
  obtain ⟨a1, s1, v1, _⟩ := laid_sentinel h2 (show Tryz.prog.globalNamed "strconv.ErrRange" = some 6 by kernel_rfl) (show (Tryz.prog.globals[6]?).map (·.type) = some 97 by kernel_rfl) Tryz.underlying97 row198 Tryz.underlying198 Tryz.underlying200 rfl rfl Tryz.underlying9 (by kernel_rfl) (by kernel_rfl)
  obtain ⟨a2, s2, v2, _⟩ := laid_sentinel h3 (show Tryz.prog.globalNamed "strconv.ErrSyntax" = some 5 by kernel_rfl) (show (Tryz.prog.globals[5]?).map (·.type) = some 97 by kernel_rfl) Tryz.underlying97 row198 Tryz.underlying198 Tryz.underlying200 rfl rfl Tryz.underlying9 (by kernel_rfl) (by kernel_rfl)
  rw [tabEq] at h1
  rw [powEq] at h5
  have h4 := Lib.tabIs_of_head (show Tryz.prog.globalNamed "math/bits.deBruijn64tab" = some 0 by kernel_rfl) (show (Tryz.prog.globals[0]?).map (·.type) = some 125 by kernel_rfl) Tryz.underlying125 Tryz.underlying5 (by kernel_rfl) (by kernel_rfl) h1
  have h6 := Lib.tabIs_of_head (show Tryz.prog.globalNamed "internal/strconv.uint64pow10" = some 2 by kernel_rfl) (show (Tryz.prog.globals[2]?).map (·.type) = some 182 by kernel_rfl) Tryz.underlying182 Tryz.underlying67 (by kernel_rfl) (by kernel_rfl) h5
  intro g cs hg
  match g, hg with
  | 0, hg =>
    cases hg
    refine ⟨_, var_imm (by kernel_rfl) h4, ?_⟩
    have := cvs_map (ρ := noRho) (I := immOf W) .u8 (Lib.deBruijn64tab.map fun (n : Nat) => (n : Int))
    rw [List.map_map] at this
    exact this
  | 1, hg => cases hg; exact max_ok hS
  | 2, hg => cases hg; exact ⟨_, var_imm (by kernel_rfl) h6, cvs_map .u64 _⟩
  | 3, hg => cases hg
  | 4, hg => cases hg
  | 5, hg => cases hg; exact ⟨_, var_imm (by kernel_rfl) v2, .cons (.iface (.any _)) .nil⟩
  | 6, hg => cases hg; exact ⟨_, var_imm (by kernel_rfl) v1, .cons (.iface (.any _)) .nil⟩
  | n + 7, hg => cases hg

theorem world_shaped (os : Os) (args : Array Value) : ((World.laidAll Tryz.prog os laidL).forCall (fun _ _ => 0) ⟨#[], args, []⟩).Shaped Tryz.prog := World.shaped_of_ZipB (by kernel_rfl) (by kernel_rfl)
theorem world_met (os : Os) (args : Array Value) : laidMetH Tryz.prog laidL ((World.laidAll Tryz.prog os laidL).forCall (fun _ _ => 0) ⟨#[], args, []⟩).memory := by
  rw [plainH]
  exact laidMet_laidAll _ (by kernel_rfl) (by kernel_rfl)
theorem laidOut : laidOutB Tryz.prog = true := by kernel_rfl
theorem ownNone : ownKnob Tryz.prog.godebug = none := by kernel_rfl
theorem kn_of {r : List AV} (h : Sh tt 64 r) : ∃ k : Kn, r = c k := by
  obtain ⟨rows, rfl, hl, hr, _⟩ := h.struct_inv (fs := _) rfl
  obtain ⟨r0, r1, r2, rfl⟩ : ∃ a b c, rows = [a, b, c] := by
    match rows, hl with
    | [a, b, c], _ => exact ⟨a, b, c, rfl⟩
  obtain ⟨a, rfl, _, _⟩ := (hr 0 _ r0 rfl rfl).int_inv (k := .i64) rfl
  obtain ⟨b, rfl, _, _⟩ := (hr 1 _ r1 rfl rfl).int_inv (k := .i64) rfl
  obtain ⟨d, rfl, _, _⟩ := (hr 2 _ r2 rfl rfl).int_inv (k := .i64) rfl
  exact ⟨⟨a, b, d⟩, rfl⟩
theorem ints_of_rows {rows : List (List AV)} (h : ∀ r ∈ rows, Sh tt 3 r) : ∃ l : List Int, l.length = rows.length ∧ rows.flatten = flat l := by
  obtain ⟨l, h1, rfl⟩ := Ax.rows_of (α := Int) (g := c) (p := Sh tt 3) (fun r hr => by
    obtain ⟨n, h1, _⟩ := hr.int_inv (k := .i64) rfl
    exact ⟨n, h1⟩) rows h
  exact ⟨l, h1, by rw [flat, List.flatMap_def]⟩
theorem stt_of {a : AV} (h : ShV tt 34 a) : ∃ s : Stt, a = stA s ∧ s.Ok := by
  obtain ⟨cs, rfl, hs⟩ := h.cells rfl
  obtain ⟨rows, rfl, hl, hr, _⟩ := hs.struct_inv (fs := _) rfl
  obtain ⟨r0, r1, r2, r3, r4, rfl⟩ : ∃ a b c d e, rows = [a, b, c, d, e] := by
    match rows, hl with
    | [a, b, c, d, e], _ => exact ⟨a, b, c, d, e, rfl⟩
  obtain ⟨i, rfl, _, _⟩ := (hr 0 _ r0 rfl rfl).int_inv (k := .i64) rfl
  obtain ⟨m, rfl, _, _⟩ := (hr 1 _ r1 rfl rfl).int_inv (k := .i64) rfl
  obtain ⟨q, rfl, hq, hqr, _⟩ := (hr 2 _ r2 rfl rfl).struct_inv (fs := _) rfl
  obtain ⟨q0, q1, q2, rfl⟩ : ∃ a b c, q = [a, b, c] := by
    match q, hq with
    | [a, b, c], _ => exact ⟨a, b, c, rfl⟩
  obtain ⟨x, rfl, _, _⟩ := (hqr 0 _ q0 rfl rfl).int_inv (k := .i64) rfl
  obtain ⟨y, rfl, _, _⟩ := (hqr 1 _ q1 rfl rfl).int_inv (k := .i64) rfl
  obtain ⟨z, rfl, _, _⟩ := (hqr 2 _ q2 rfl rfl).int_inv (k := .i64) rfl
  obtain ⟨krows, rfl, _, hk, _⟩ := (hr 3 _ r3 rfl rfl).slice_inv (e := 64) rfl
  obtain ⟨ks, hkl, rfl⟩ := Ax.rows_of (α := Kn) (g := c) (p := Sh tt 64) (fun r hr => kn_of hr) krows hk
  obtain ⟨t, rfl, ht, htr, _⟩ := (hr 4 _ r4 rfl rfl).struct_inv (fs := _) rfl
  obtain ⟨t0, t1, rfl⟩ : ∃ a b, t = [a, b] := by
    match t, ht with
    | [a, b], _ => exact ⟨a, b, rfl⟩
  obtain ⟨orows, rfl, ho, hor, _⟩ := (htr 0 _ t0 rfl rfl).array_inv (n := 64) (e := 3) rfl
  obtain ⟨erows, rfl, he, her, _⟩ := (htr 1 _ t1 rfl rfl).array_inv (n := 64) (e := 3) rfl
  obtain ⟨own, ho1, ho2⟩ := ints_of_rows hor
  obtain ⟨epo, he1, he2⟩ := ints_of_rows her
  refine ⟨⟨i, m, x, y, z, ks, own, epo⟩, ?_, ⟨ho1.trans ho, he1.trans he⟩⟩
  have hk2 : (ks.map c).flatten = flat ks := by rw [flat, List.flatMap_def]
  simp only [List.flatten_cons, List.flatten_nil, List.append_nil, ho2, he2, hk2, List.length_map]
  rfl
theorem sh_st {r : List AV} (h : Sh tt 34 r) : ∃ s : Stt, r = s.cs (vecA s.known) ∧ s.Ok := by
  obtain ⟨s, h1, h2⟩ := stt_of (a := .agg r) (by unfold ShV; rw [if_pos (show (tt 34).agg = true from rfl)]; exact ⟨r, rfl, h⟩)
  cases h1
  exact ⟨s, rfl, h2⟩
theorem three3 {xs : List AV} (h : xs.length = 3) : ∃ a b c, xs = [a, b, c] := by
  match xs, h with
  | [a, b, c], _ => exact ⟨a, b, c, rfl⟩
theorem sts_of {a : AV} (h : ShV tt 22 a) : ∃ l : List St, a = vecA l := by
  obtain ⟨rows, h1, hm, hr⟩ := (h.one rfl).slice_inv (e := 34) rfl
  obtain ⟨l, h2, rfl⟩ := rows_of (α := St) (g := Cel.c) (fun r hr => by
    obtain ⟨s, h1, h2⟩ := sh_st hr
    exact ⟨⟨s, h2⟩, h1⟩) rows hr.1
  simp only [List.cons.injEq, and_true] at h1
  refine ⟨l, ?_⟩
  rw [h1]
  simp [vecA, flat, List.flatMap_def]
theorem ints_of {a : AV} (h : ShV tt 51 a) : ∃ l : List Int, a = vecA l ∧ ∀ n ∈ l, n ≤ 9223372036854775807 := by
  obtain ⟨rows, h1, hm, hr⟩ := (h.one rfl).slice_inv (e := 3) rfl
  obtain ⟨l, h2, rfl⟩ := rows_of (α := Int) (g := Cel.c) (fun r hr => by
    obtain ⟨n, h1, _, _⟩ := hr.int_inv (k := .i64) rfl
    exact ⟨n, h1⟩) rows hr.1
  simp only [List.cons.injEq, and_true] at h1
  refine ⟨l, ?_, fun n hn => ?_⟩
  · rw [h1]
    simp [vecA, flat, List.flatMap_def]
  · obtain ⟨k, hk, _, hk2⟩ := (hr.1 _ (List.mem_map.2 ⟨n, hn, rfl⟩)).int_inv (k := .i64) rfl
    cases hk; exact hk2
theorem returns_shaped {H : Type} {enc : TypeId × Value → H} {a : Assume} {C : Checked} {os : Os} {f : FuncId} {fn : Func} {s : ChangeSpec} {conds : List PathCond} {apart fresh handsOn again : Bool} {X : World → Array Value → Prop}
    (hX : ∀ (w w' : World) (args : Array Value), w.heap = w'.heap → X w args → X w' args)
    (own : ownKnob C.prog.godebug = none) (started : os.Started) (noInit : C.prog.inits.idxOf? f = none) (hfn : C.prog.funcs[f]? = some fn)
    (witness : ∃ (w : World) (tape : Tape) (i : Input), w.os = os ∧ (w.forCall tape i).Shaped C.prog ∧ i.vars = [] ∧ Input.okWide C.prog (w.forCall tape i) .any w.heap.size f i ∧
      ((s.pre enc C.prog fn conds apart (w.forCall tape i).memory i.args ∧ X (w.forCall tape i).memory i.args) ∧ sizedMet enc C.prog fn (OpenSpec.ofChange s) apart (w.forCall tape i).memory i.args) ∧ a.holds C.prog (lone (Frame.enter C.prog f i.args .normal) [] (w.forCall tape i)))
    (contract : ∀ (W : World) (base : Nat) (args : Array Value) (ds gs : List (DataW H)) (before : List MemPlace), W.ShapedOpen C.prog →
      (∀ (j : Nat) t v, fn.params[j]? = some t → args[j]? = some v → Value.okWide C.prog W .any base t v) →
      DataW.Whole enc C.prog fn.params.toList s.vars apart W args.toList ds gs before →
      conds.all (PathCond.test C.prog ⟨fn.params.toList, ds, s.plain.varTypes C.prog, gs⟩) = true →
      (DataW.weightsEach C.prog (fn.params.toList ++ s.plain.varTypes C.prog) (ds ++ gs)).all (· ≤ reachBytes) = true → X W args →
      a.holds C.prog (lone (Frame.enter C.prog f args .normal) [] W) →
      Calls C.prog f args W fun e W' => ∃ v, e = .returned v ∧ s.post enc C.prog fn apart fresh handsOn again W args v W') :
    ReturnsInHanded a C os f .any (fun w args => (s.pre enc C.prog fn conds apart w args ∧ X w args) ∧ sizedMet enc C.prog fn (OpenSpec.ofChange s) apart w args) (s.post enc C.prog fn apart fresh handsOn again) := by
  refine returnsInHanded_of_calls own started noInit witness ?_
  intro w tape i _ hsh _ hok hpre hholds
  obtain ⟨_, _, _, fn', hfn', _, _, _, _, hval⟩ := hok
  have e : fn' = fn := Option.some.inj (hfn'.symm.trans hfn)
  subst e
  obtain ⟨⟨⟨ds, gs, before, hw, hc⟩, hx⟩, hz⟩ := hpre
  have hw' := DataW.Whole.of_heap (w' := w.forCall tape i) (by rfl) hw
  refine (contract (w.forCall tape i) w.heap.size i.args ds gs before hsh hval hw' hc (hz.weights hw) (hX _ _ _ (by rfl) hx) hholds).mono fun e W' ⟨v, he, hp⟩ => ?_
  subst he
  exact ChangeSpec.post_blind hp
end Go.Proofs.YtcomjodfkcnjhaaGreatDoor
