/- Whatever message, however many are lost, wherever one is taken: the statement on a full network answers true, and its arguments read as they did. No condition. -/
import Derived.Test.YtdogeolaaejinaaRows
import Derived.Test.YtdogeolaaejinaaF
namespace Go.Proofs.Ytdogeolaaejinaa
open Go.Ax

theorem ownKnobNone : ownKnob Try.prog.godebug = none := by kernel_rfl
theorem laidOut : laidOutB Try.prog = true := by kernel_rfl

/-- The cells of a message. -/
theorem msg_of {cs : List AV} (h : Sh tt 29 cs) : ∃ m : Msg, cs = m.cells ∧ m.d.length ≤ maxLen := by
  obtain ⟨rows, rfl, hl, hr, _⟩ := h.struct_inv rfl
  have hl3 : rows.length = 3 := hl
  obtain ⟨r0, r1, r2, rfl⟩ : ∃ r0 r1 r2, rows = [r0, r1, r2] := by
    match rows, hl3 with
    | [a, b, c], _ => exact ⟨a, b, c, rfl⟩
  obtain ⟨f, rfl, _⟩ := (hr 0 _ r0 rfl rfl).int_inv (k := .i64) rfl
  obtain ⟨t, rfl, _⟩ := (hr 1 _ r1 rfl rfl).int_inv (k := .i64) rfl
  obtain ⟨d, rfl, hd⟩ := (hr 2 _ r2 rfl rfl).bytes_inv rfl rfl
  exact ⟨⟨f, t, d⟩, rfl, hd⟩
theorem int_of {a : AV} (h : ShV tt 3 a) : ∃ n : Int, a = .v (.int .i64 n) ∧ -9223372036854775808 ≤ n ∧ n ≤ 9223372036854775807 := by
  obtain ⟨n, h1, h2, h3⟩ := (h.one rfl).int_inv (k := .i64) rfl
  simp only [List.cons.injEq, and_true] at h1
  exact ⟨n, h1, h2, h3⟩

theorem three {xs : List AV} (h : xs.length = 3) : ∃ a b c, xs = [a, b, c] := by
  match xs, h with
  | [a, b, c], _ => exact ⟨a, b, c, rfl⟩

set_option maxRecDepth 100000 in
theorem netFull_lifted (os : Os) (started : os.Started) (H : Type) (enc : TypeId × Value → H) :
    ReturnsInHanded {} Try.checked os 4 .any (Rows.netFullSpec.pre6 enc Try.prog Try.f4 Rows.netFullRow.domain false) (Rows.netFullSpec.post enc Try.prog Try.f4 false true false false) := by
  refine returnsInHanded_of_change (C := Try.checked) ownKnobNone started (by kernel_rfl) Try.func4
    (ChangeSpec.witness6 (enc := enc) (C := Try.checked) false ⟨#[], #[.agg #[.int .i64 0, .int .i64 0, .slice none 0 0], .int .i64 0, .int .i64 0], []⟩ 8 (by kernel_rfl) (by kernel_rfl) (by kernel_rfl) (by kernel_rfl)) ?_
  intro W base args ds gs before hval hW _ _
  refine law_contract tok laidOut (ts := [29, 3, 3]) (tb := 4) 8 (by kernel_rfl) (by kernel_rfl) (by kernel_rfl) (by kernel_rfl) rfl ?_ ?_ hval hW
  · intro ds hd
    match ds, hd with
    | [d1, d2, d3], _ => exact ⟨rfl, rfl, rfl⟩
  · intro xs hl ha
    obtain ⟨a0, a1, a2, rfl⟩ := three hl
    obtain ⟨cs, rfl, hc⟩ := (ha 0 29 a0 rfl rfl).cells rfl
    obtain ⟨m, rfl, _⟩ := msg_of hc
    obtain ⟨a, rfl, _⟩ := int_of (ha 1 3 a1 rfl rfl)
    obtain ⟨b, rfl, _⟩ := int_of (ha 2 3 a2 rfl rfl)
    exact full_law m a b

theorem netFull_holds : Rows.NetFullSaid :=
  OpenClaim.holds_of_wide 4 Try.f4 rfl rfl rfl rfl rfl rfl rfl ⟨rfl, rfl, rfl, rfl, rfl⟩ rfl rfl rfl rfl rfl (by kernel_rfl) Try.func4 (by kernel_rfl)
    (of_decide_eq_true (by kernel_rfl)) (by unfold Func.isWrapper; first | (rw [if_pos (by decide +kernel)]; kernel_rfl) | (rw [if_neg (by decide +kernel)]; exact ⟨rfl, rfl⟩))
    (fun os started H enc _ => netFull_lifted os started H enc)
end Go.Proofs.Ytdogeolaaejinaa
