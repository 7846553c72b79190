/- What the rows of the slots share: what the listed variables hold, and a world in which they are laid. -/
import Derived.Test.YtopbofalkcblgaaDoorCW5
import Derived.Test.YtopbofalkcblgaaDoorTie
import Derived.Test.YtopbofalkcblgaaDoorCards
import Derived.ChangeVars
import Derived.JoinedOf
import Derived.RowKit
import Derived.LaidLaws
import Derived.LaidMore
import Derived.Lay
import Derived.MakeChecks
import Derived.SevenTiedAt
import Derived.Stop.Joined
import Derived.Stop.LaidErr
import Derived.Lib.LaidTab
set_option linter.unusedSimpArgs false
set_option linter.unusedVariables false
namespace Go.Proofs.YtopbofalkcblgaaDoor
open Go.Ax
open Cel (c)
open Go

abbrev laidL : List (String × DataW Unit) := Rows.slotsTextsRow.laid
theorem star : "*" ++ "errors.errorString" = "*errors.errorString" := by decide
theorem row107 (u : TypeId) (h : Tryd.prog.typeName? 3 u = some "*errors.errorString") : u = 107 :=
  typeName_ptr_named (nm := "errors.errorString") (by rw [star]; kernel_rfl) (by kernel_rfl) (by decide) u (by rw [star]; exact h)
theorem plainH (W : World) : laidMetH Tryd.prog laidL W = laidMet Tryd.prog laidL W := MakeChecks.laidMetH_plain _ _ _ (by kernel_rfl)
theorem tabEq : (Rows.laid_math_bits_deBruijn64tab : DataW Unit) = Lib.tabData .u8 (Lib.deBruijn64tab.map fun (n : Nat) => (n : Int)) := by kernel_rfl
theorem err_imm {W : World} {n : String} {g : Nat} {p : Value} (hg : Tryd.prog.globalNamed n = some g) (h : W.var? Tryd.prog n = some #[.iface 107 p]) : ∃ arr, immOf W g = some arr ∧ CVs noRho (immOf W) [.iface 107 .any] arr.toList := by
  unfold World.var? at h
  rw [hg] at h
  simp only [Option.bind_some] at h
  refine ⟨#[.iface 107 p], ?_, .cons (.iface (.any _)) .nil⟩
  unfold immOf
  split at h
  · rename_i arr t fz e
    rw [e]
    simpa using h
  · cases h
theorem cvs_map {ρ : Rho} {I : Imm} : ∀ zs : List Nat, CVs ρ I (zs.map fun n => .v (.int .u8 (n : Nat))) (zs.map fun (n : Nat) => Value.int .u8 (n : Int))
  | [] => .nil
  | _ :: r => .cons (.v _) (cvs_map r)
theorem glob_ok {W : World} (h0 : laidMetH Tryd.prog laidL W) : GlobOK W := by
  rw [plainH] at h0
  have h1 : laidMet Tryd.prog (("math/bits.deBruijn64tab", Rows.laid_math_bits_deBruijn64tab) :: [("internal/strconv.uint64pow10", Rows.laid_internal_strconv_uint64pow10), ("unicode/utf8.acceptRanges", Rows.laid_unicode_utf8_acceptRanges), ("strconv.ErrRange", Rows.laid_strconv_ErrRange), ("strconv.ErrSyntax", Rows.laid_strconv_ErrSyntax), ("unicode/utf8.first", Rows.laid_unicode_utf8_first)]) W := h0.tail
  have h2 := h1.tail.tail.tail
  have h3 := h2.tail
  obtain ⟨a1, s1, v1, _⟩ := laid_sentinel h2 (show Tryd.prog.globalNamed "strconv.ErrRange" = some 3 by kernel_rfl) (show (Tryd.prog.globals[3]?).map (·.type) = some 56 by kernel_rfl) Tryd.underlying56 row107 Tryd.underlying107 Tryd.underlying109 rfl rfl Tryd.underlying9 (by kernel_rfl) (by kernel_rfl)
  obtain ⟨a2, s2, v2, _⟩ := laid_sentinel h3 (show Tryd.prog.globalNamed "strconv.ErrSyntax" = some 2 by kernel_rfl) (show (Tryd.prog.globals[2]?).map (·.type) = some 56 by kernel_rfl) Tryd.underlying56 row107 Tryd.underlying107 Tryd.underlying109 rfl rfl Tryd.underlying9 (by kernel_rfl) (by kernel_rfl)
  rw [tabEq] at h1
  have h4 := Lib.tabIs_of_head (show Tryd.prog.globalNamed "math/bits.deBruijn64tab" = some 0 by kernel_rfl) (show (Tryd.prog.globals[0]?).map (·.type) = some 71 by kernel_rfl) Tryd.underlying71 Tryd.underlying5 (by kernel_rfl) (by kernel_rfl) h1
  intro g cs hg
  match g, hg with
  | 0, hg => 
    cases hg
    unfold Lib.TabIs World.var? at h4
    rw [show Tryd.prog.globalNamed "math/bits.deBruijn64tab" = some 0 by kernel_rfl] at h4
    simp only [Option.bind_some] at h4
    split at h4
    · rename_i arr t fz e
      refine ⟨arr, by unfold immOf; rw [e], ?_⟩
      have e2 : arr.toList = Lib.deBruijn64tab.map fun (n : Nat) => Value.int .u8 (n : Int) := by
        have := congrArg Array.toList (Option.some.inj h4)
        rw [List.map_map] at this
        exact this
      rw [e2]
      exact cvs_map _
    · cases h4
  | 1, hg => cases hg
  | 2, hg => cases hg; exact err_imm (by kernel_rfl) v2
  | 3, hg => cases hg; exact err_imm (by kernel_rfl) v1
  | n + 4, hg => cases hg

/-- A world in which the variables are laid. -/
theorem world_shaped (os : Os) (args : Array Value) : ((World.laidAll Tryd.prog os laidL).forCall (fun _ _ => 0) ⟨#[], args, []⟩).Shaped Tryd.prog := World.shaped_of_ZipB (by kernel_rfl) (by kernel_rfl)
theorem world_met (os : Os) (args : Array Value) : laidMetH Tryd.prog laidL ((World.laidAll Tryd.prog os laidL).forCall (fun _ _ => 0) ⟨#[], args, []⟩).memory := by
  rw [plainH]
  exact laidMet_laidAll _ (by kernel_rfl) (by kernel_rfl)
theorem laidOut : laidOutB Tryd.prog = true := by kernel_rfl
theorem int_of {a : AV} (h : ShV tt 3 a) : ∃ n : Int, a = .v (.int .i64 n) := by
  obtain ⟨n, h1, _, _⟩ := (h.one rfl).int_inv (k := .i64) rfl
  simp only [List.cons.injEq, and_true] at h1
  exact ⟨n, h1⟩
theorem set_of {a : AV} (h : ShV tt 23 a) : ∃ s : BitVec 64, a = u64A s := by
  obtain ⟨n, h1, h2, h3⟩ := (h.one rfl).int_inv (k := .u64) rfl
  simp only [List.cons.injEq, and_true] at h1
  refine ⟨BitVec.ofNat 64 n.toNat, ?_⟩
  rw [h1]
  have h4 : 0 ≤ n := h2
  have h5 : n ≤ 18446744073709551615 := h3
  show AV.v (.int .u64 n) = .v (.int .u64 _)
  rw [BitVec.toNat_ofNat, Nat.mod_eq_of_lt (by omega), Int.toNat_of_nonneg h4]
theorem str_of_arg {a : AV} (h : ShV tt 9 a) : ∃ l : List UInt8, a = strA l := by
  obtain ⟨b, h1, _⟩ := (h.one rfl).str_inv rfl
  simp only [List.cons.injEq, and_true] at h1
  exact ⟨_, h1.trans (by rw [strA, ← str_of b])⟩
theorem rows_of {α : Type} {p : List AV → Prop} {g : α → List AV} (hg : ∀ r, p r → ∃ x, r = g x) : ∀ rows : List (List AV), (∀ r ∈ rows, p r) → ∃ xs : List α, xs.length = rows.length ∧ rows = xs.map g
  | [], _ => ⟨[], rfl, rfl⟩
  | r :: rs, h => by
    obtain ⟨x, rfl⟩ := hg r (h r (by simp))
    obtain ⟨xs, h1, h2⟩ := rows_of hg rs (fun q hq => h q (by simp [hq]))
    exact ⟨x :: xs, by simp [h1], by rw [h2]; rfl⟩
theorem ints_of {a : AV} (h : ShV tt 41 a) : ∃ l : List Int, a = vecA l := by
  obtain ⟨rows, h1, hm, hr⟩ := (h.one rfl).slice_inv (e := 3) rfl
  obtain ⟨l, h2, rfl⟩ := rows_of (α := Int) (g := Cel.c) (fun r hr => by
    obtain ⟨n, h1, _, _⟩ := hr.int_inv (k := .i64) rfl
    exact ⟨n, h1⟩) rows hr.1
  simp only [List.cons.injEq, and_true] at h1
  refine ⟨l, ?_⟩
  rw [h1]
  simp [vecA, flat, List.flatMap_def]
theorem one {xs : List AV} (h : xs.length = 1) : ∃ a, xs = [a] := by
  match xs, h with
  | [a], _ => exact ⟨a, rfl⟩
theorem two {xs : List AV} (h : xs.length = 2) : ∃ a b, xs = [a, b] := by
  match xs, h with
  | [a, b], _ => exact ⟨a, b, rfl⟩
theorem four {xs : List AV} (h : xs.length = 4) : ∃ a b c d, xs = [a, b, c, d] := by
  match xs, h with
  | [a, b, c, d], _ => exact ⟨a, b, c, d, rfl⟩
theorem ownNone : ownKnob Tryd.prog.godebug = none := by kernel_rfl
end Go.Proofs.YtopbofalkcblgaaDoor
