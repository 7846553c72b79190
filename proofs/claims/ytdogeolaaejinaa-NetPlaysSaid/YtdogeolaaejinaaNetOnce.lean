/- Whatever messages, in whatever order they are taken: the statement that each comes just once answers true, and its arguments read as they did. No condition. -/
import Derived.Test.YtdogeolaaejinaaG
import Derived.Test.YtdogeolaaejinaaNetFull
namespace Go.Proofs.Ytdogeolaaejinaa
open Go.Ax

theorem flat_flatten (ms : List Msg) : (ms.map Msg.cells).flatten = flat ms := by simp [flat, List.flatMap_def]
/-- A list of messages. -/
theorem msgs_of {a : AV} (h : ShV tt 22 a) : ∃ ms : List Msg, a = .vec ms.length (flat ms) ∧ ms.length ≤ maxLen := by
  obtain ⟨rows, h1, hl, hr, _⟩ := (h.one rfl).slice_inv rfl
  obtain ⟨ms, h2, rfl⟩ := rows_of (g := Msg.cells) (fun r hr => by
    obtain ⟨m, hm, _⟩ := msg_of hr
    exact ⟨m, hm⟩) rows hr
  simp only [List.cons.injEq, and_true] at h1
  refine ⟨ms, ?_, by omega⟩
  rw [h1, List.length_map, flat_flatten]
theorem ints_of {a : AV} (h : ShV tt 23 a) : ∃ ps : List Int, a = .vec ps.length (ps.map fun n => .v (.int .i64 n)) ∧ ps.length ≤ maxLen := by
  obtain ⟨ps, h1, h2, _⟩ := (h.one rfl).ints_inv (k := .i64) rfl rfl
  simp only [List.cons.injEq, and_true] at h1
  exact ⟨ps, h1, h2⟩
theorem two {xs : List AV} (h : xs.length = 2) : ∃ a b, xs = [a, b] := by
  match xs, h with
  | [a, b], _ => exact ⟨a, b, rfl⟩

set_option maxRecDepth 100000 in
theorem netOnce_lifted (os : Os) (started : os.Started) (H : Type) (enc : TypeId × Value → H) :
    ReturnsInHanded {} Try.checked os 3 .any (Rows.netOnceSpec.pre6 enc Try.prog Try.f3 Rows.netOnceRow.domain false) (Rows.netOnceSpec.post enc Try.prog Try.f3 false true false false) := by
  refine returnsInHanded_of_change (C := Try.checked) ownKnobNone started (by kernel_rfl) Try.func3
    (ChangeSpec.witness6 (enc := enc) (C := Try.checked) false ⟨#[], #[.slice none 0 0, .slice none 0 0], []⟩ 8 (by kernel_rfl) (by kernel_rfl) (by kernel_rfl) (by kernel_rfl)) ?_
  intro W base args ds gs before hval hW _ _
  refine law_contract tok laidOut (ts := [22, 23]) (tb := 4) 8 (by kernel_rfl) (by kernel_rfl) (by kernel_rfl) (by kernel_rfl) rfl ?_ ?_ hval hW
  · intro ds hd
    match ds, hd with
    | [d1, d2], _ => exact ⟨rfl, rfl, rfl⟩
  · intro xs hl ha
    obtain ⟨a0, a1, rfl⟩ := two hl
    obtain ⟨ms, rfl, _⟩ := msgs_of (ha 0 22 a0 rfl rfl)
    obtain ⟨ps, rfl, _⟩ := ints_of (ha 1 23 a1 rfl rfl)
    exact once_law ms ps

theorem netOnce_holds : Rows.NetOnceSaid :=
  OpenClaim.holds_of_wide 3 Try.f3 rfl rfl rfl rfl rfl rfl rfl ⟨rfl, rfl, rfl, rfl, rfl⟩ rfl rfl rfl rfl rfl (by kernel_rfl) Try.func3 (by kernel_rfl)
    (of_decide_eq_true (by kernel_rfl)) (by unfold Func.isWrapper; first | (rw [if_pos (by decide +kernel)]; kernel_rfl) | (rw [if_neg (by decide +kernel)]; exact ⟨rfl, rfl⟩))
    (fun os started H enc _ => netOnce_lifted os started H enc)
end Go.Proofs.Ytdogeolaaejinaa
