/- What the rows of the commands share: what the listed variables hold, a world in which they are laid, how arguments read. -/
import Derived.Test.YtlkbckffeegikaaDoorCX3
import Derived.Test.YtlkbckffeegikaaDoorTie
import Derived.Test.YtlkbckffeegikaaDoorCards
import Derived.ChangeVars
import Derived.JoinedOf
import Derived.RowKit
import Derived.LaidLaws
import Derived.LaidMore
import Derived.Lay
import Derived.MakeChecks
import Derived.SevenTiedAt
import Derived.Stop.Joined
import Derived.Stop.LaidErr
import Derived.Lib.LaidTab
set_option linter.unusedSimpArgs false
set_option linter.unusedVariables false
namespace Go.Proofs.YtlkbckffeegikaaDoor
open Go.Ax
open Cel (c)
open Go

abbrev laidL : List (String × DataW Unit) := Rows.commandTextsRow.laid
theorem star : "*" ++ "errors.errorString" = "*errors.errorString" := by decide
theorem row114 (u : TypeId) (h : Tryd.prog.typeName? 3 u = some "*errors.errorString") : u = 114 :=
  typeName_ptr_named (nm := "errors.errorString") (by rw [star]; kernel_rfl) (by kernel_rfl) (by decide) u (by rw [star]; exact h)
theorem plainH (W : World) : laidMetH Tryd.prog laidL W = laidMet Tryd.prog laidL W := MakeChecks.laidMetH_plain _ _ _ (by kernel_rfl)
theorem tabEq : (Rows.laid_math_bits_deBruijn64tab : DataW Unit) = Lib.tabData .u8 (Lib.deBruijn64tab.map fun (n : Nat) => (n : Int)) := by kernel_rfl
theorem powEq : (Rows.laid_internal_strconv_uint64pow10 : DataW Unit) = Lib.tabData .u64 Lib.pow10Tab := by kernel_rfl
theorem var_imm {W : World} {n : String} {g : Nat} {cs : Array Value} (hg : Tryd.prog.globalNamed n = some g) (h : W.var? Tryd.prog n = some cs) : immOf W g = some cs := by
  unfold World.var? at h
  rw [hg] at h
  simp only [Option.bind_some] at h
  unfold immOf
  split at h
  · rename_i arr t fz e
    rw [e]
    simpa using h
  · cases h
theorem cvs_map {ρ : Rho} {I : Imm} (k : IntKind) : ∀ zs : List Int, CVs ρ I (zs.map fun n => .v (.int k n)) (zs.map fun n => Value.int k n)
  | [] => .nil
  | _ :: r => .cons (.v _) (cvs_map k r)
theorem glob_ok {W : World} (h0 : laidMetH Tryd.prog laidL W) : GlobOK W := by
  rw [plainH] at h0
  have h1 : laidMet Tryd.prog (("math/bits.deBruijn64tab", Rows.laid_math_bits_deBruijn64tab) :: [("internal/strconv.uint64pow10", Rows.laid_internal_strconv_uint64pow10), ("unicode/utf8.acceptRanges", Rows.laid_unicode_utf8_acceptRanges), ("strconv.ErrRange", Rows.laid_strconv_ErrRange), ("strconv.ErrSyntax", Rows.laid_strconv_ErrSyntax), ("unicode/utf8.first", Rows.laid_unicode_utf8_first)]) W := h0.tail
  have h5 := h1.tail
  have h2 := h1.tail.tail.tail
  have h3 := h2.tail
  obtain ⟨a1, s1, v1, _⟩ := laid_sentinel h2 (show Tryd.prog.globalNamed "strconv.ErrRange" = some 2 by kernel_rfl) (show (Tryd.prog.globals[2]?).map (·.type) = some 55 by kernel_rfl) Tryd.underlying55 row114 Tryd.underlying114 Tryd.underlying116 rfl rfl Tryd.underlying9 (by kernel_rfl) (by kernel_rfl)
  obtain ⟨a2, s2, v2, _⟩ := laid_sentinel h3 (show Tryd.prog.globalNamed "strconv.ErrSyntax" = some 1 by kernel_rfl) (show (Tryd.prog.globals[1]?).map (·.type) = some 55 by kernel_rfl) Tryd.underlying55 row114 Tryd.underlying114 Tryd.underlying116 rfl rfl Tryd.underlying9 (by kernel_rfl) (by kernel_rfl)
  rw [tabEq] at h1
  rw [powEq] at h5
  have h4 := Lib.tabIs_of_head (show Tryd.prog.globalNamed "math/bits.deBruijn64tab" = some 7 by kernel_rfl) (show (Tryd.prog.globals[7]?).map (·.type) = some 130 by kernel_rfl) Tryd.underlying130 Tryd.underlying5 (by kernel_rfl) (by kernel_rfl) h1
  have h6 := Lib.tabIs_of_head (show Tryd.prog.globalNamed "internal/strconv.uint64pow10" = some 3 by kernel_rfl) (show (Tryd.prog.globals[3]?).map (·.type) = some 118 by kernel_rfl) Tryd.underlying118 Tryd.underlying23 (by kernel_rfl) (by kernel_rfl) h5
  intro g cs hg
  match g, hg with
  | 0, hg => cases hg
  | 1, hg => cases hg; exact ⟨_, var_imm (by kernel_rfl) v2, .cons (.iface (.any _)) .nil⟩
  | 2, hg => cases hg; exact ⟨_, var_imm (by kernel_rfl) v1, .cons (.iface (.any _)) .nil⟩
  | 3, hg => cases hg; exact ⟨_, var_imm (by kernel_rfl) h6, cvs_map .u64 _⟩
  | 4, hg => cases hg
  | 5, hg => cases hg
  | 6, hg => cases hg
  | 7, hg =>
    cases hg
    refine ⟨_, var_imm (by kernel_rfl) h4, ?_⟩
    have := cvs_map (ρ := noRho) (I := immOf W) .u8 (Lib.deBruijn64tab.map fun (n : Nat) => (n : Int))
    rw [List.map_map] at this
    exact this
  | n + 8, hg => cases hg

/-- A world in which the variables are laid. -/
theorem world_shaped (os : Os) (args : Array Value) : ((World.laidAll Tryd.prog os laidL).forCall (fun _ _ => 0) ⟨#[], args, []⟩).Shaped Tryd.prog := World.shaped_of_ZipB (by kernel_rfl) (by kernel_rfl)
theorem world_met (os : Os) (args : Array Value) : laidMetH Tryd.prog laidL ((World.laidAll Tryd.prog os laidL).forCall (fun _ _ => 0) ⟨#[], args, []⟩).memory := by
  rw [plainH]
  exact laidMet_laidAll _ (by kernel_rfl) (by kernel_rfl)
theorem laidOut : laidOutB Tryd.prog = true := by kernel_rfl
theorem ownNone : ownKnob Tryd.prog.godebug = none := by kernel_rfl
theorem str_of_arg {a : AV} (h : ShV tt 9 a) : ∃ l : List UInt8, a = strA l := by
  obtain ⟨b, h1, _⟩ := (h.one rfl).str_inv rfl
  simp only [List.cons.injEq, and_true] at h1
  exact ⟨_, h1.trans (by rw [strA, ← str_of b])⟩
theorem rows_of {α : Type} {p : List AV → Prop} {g : α → List AV} (hg : ∀ r, p r → ∃ x, r = g x) : ∀ rows : List (List AV), (∀ r ∈ rows, p r) → ∃ xs : List α, xs.length = rows.length ∧ rows = xs.map g
  | [], _ => ⟨[], rfl, rfl⟩
  | r :: rs, h => by
    obtain ⟨x, rfl⟩ := hg r (h r (by simp))
    obtain ⟨xs, h1, h2⟩ := rows_of hg rs (fun q hq => h q (by simp [hq]))
    exact ⟨x :: xs, by simp [h1], by rw [h2]; rfl⟩
theorem bools_of {a : AV} (h : ShV tt 41 a) : ∃ l : List Bool, a = vecA l := by
  obtain ⟨rows, h1, hm, hr⟩ := (h.one rfl).slice_inv (e := 4) rfl
  obtain ⟨l, h2, rfl⟩ := rows_of (α := Bool) (g := Cel.c) (fun r hr => hr.bool_inv rfl) rows hr.1
  simp only [List.cons.injEq, and_true] at h1
  refine ⟨l, ?_⟩
  rw [h1]
  simp [vecA, flat, List.flatMap_def]
theorem ln_of {a : AV} (h : ShV tt 26 a) : ∃ l : Ln, a = .agg (c l) ∧ (-9223372036854775808 ≤ l.id ∧ l.id ≤ 9223372036854775807) := by
  obtain ⟨cs, rfl, hs⟩ := h.cells rfl
  obtain ⟨rows, rfl, hl, hr, _⟩ := hs.struct_inv (fs := _) rfl
  obtain ⟨r0, r1, r2, r3, rfl⟩ : ∃ a b c d, rows = [a, b, c, d] := by
    match rows, hl with
    | [a, b, c, d], _ => exact ⟨a, b, c, d, rfl⟩
  obtain ⟨a, rfl, _, _⟩ := (hr 0 _ r0 rfl rfl).int_inv (k := .i64) rfl
  obtain ⟨b, rfl, hb, hb'⟩ := (hr 1 _ r1 rfl rfl).int_inv (k := .i64) rfl
  obtain ⟨n, rfl, hn, hn'⟩ := (hr 2 _ r2 rfl rfl).int_inv (k := .u64) rfl
  obtain ⟨s, rfl, _⟩ := (hr 3 _ r3 rfl rfl).str_inv rfl
  have h4 : 0 ≤ n := hn
  have h5 : n ≤ 18446744073709551615 := hn'
  refine ⟨⟨a, b, BitVec.ofNat 64 n.toNat, s.data.toList⟩, ?_, ⟨hb, hb'⟩⟩
  show AV.agg [.v (.int .i64 a), .v (.int .i64 b), .v (.int .u64 n), .v (.string s)] = .agg [.v (.int .i64 a), .v (.int .i64 b), u64A (BitVec.ofNat 64 n.toNat), strA s.data.toList]
  rw [show u64A (BitVec.ofNat 64 n.toNat) = .v (.int .u64 n) from by
    show AV.v (.int .u64 _) = .v (.int .u64 n)
    rw [BitVec.toNat_ofNat, Nat.mod_eq_of_lt (by omega), Int.toNat_of_nonneg h4], show strA s.data.toList = .v (.string s) from by rw [strA, ← str_of s]]
theorem one {xs : List AV} (h : xs.length = 1) : ∃ a, xs = [a] := by
  match xs, h with
  | [a], _ => exact ⟨a, rfl⟩
theorem two {xs : List AV} (h : xs.length = 2) : ∃ a b, xs = [a, b] := by
  match xs, h with
  | [a, b], _ => exact ⟨a, b, rfl⟩
end Go.Proofs.YtlkbckffeegikaaDoor
