/- Whatever is put, taken and doubled, in whatever order: the statement on whole plays of a network answers true, and its arguments read as they did. No condition. -/
import Derived.Test.YtdogeolaaejinaaK
import Derived.Test.YtdogeolaaejinaaNetOnce
namespace Go.Proofs.Ytdogeolaaejinaa
open Go.Ax

/-- The cells of a step. -/
theorem step_of {cs : List AV} (h : Sh tt 42 cs) : ∃ s : Step, cs = s.cells := by
  obtain ⟨rows, rfl, hl, hr, _⟩ := h.struct_inv rfl
  have hl3 : rows.length = 3 := hl
  obtain ⟨r0, r1, r2, rfl⟩ : ∃ r0 r1 r2, rows = [r0, r1, r2] := by
    match rows, hl3 with
    | [a, b, c], _ => exact ⟨a, b, c, rfl⟩
  obtain ⟨w, rfl, _⟩ := (hr 0 _ r0 rfl rfl).int_inv (k := .i64) rfl
  obtain ⟨k, rfl, _⟩ := (hr 1 _ r1 rfl rfl).int_inv (k := .i64) rfl
  obtain ⟨m, rfl, _⟩ := msg_of (hr 2 _ r2 rfl rfl)
  exact ⟨⟨w, k, m⟩, rfl⟩
theorem flatS_flatten (l : List Step) : (l.map Step.cells).flatten = flatS l := by simp [flatS, List.flatMap_def]
/-- A list of steps. -/
theorem steps_of {a : AV} (h : ShV tt 40 a) : ∃ l : List Step, a = .vec l.length (flatS l) := by
  obtain ⟨rows, h1, hl, hr, _⟩ := (h.one rfl).slice_inv rfl
  obtain ⟨l, h2, rfl⟩ := rows_of (g := Step.cells) (fun r hr => step_of hr) rows hr
  simp only [List.cons.injEq, and_true] at h1
  refine ⟨l, ?_⟩
  rw [h1, List.length_map, flatS_flatten]

set_option maxRecDepth 100000 in
theorem netPlays_lifted (os : Os) (started : os.Started) (H : Type) (enc : TypeId × Value → H) :
    ReturnsInHanded {} Try.checked os 5 .any (Rows.netPlaysSpec.pre6 enc Try.prog Try.f5 Rows.netPlaysRow.domain false) (Rows.netPlaysSpec.post enc Try.prog Try.f5 false true false false) := by
  refine returnsInHanded_of_change (C := Try.checked) ownKnobNone started (by kernel_rfl) Try.func5
    (ChangeSpec.witness6 (enc := enc) (C := Try.checked) false ⟨#[], #[.slice none 0 0, .int .i64 0], []⟩ 8 (by kernel_rfl) (by kernel_rfl) (by kernel_rfl) (by kernel_rfl)) ?_
  intro W base args ds gs before hval hW _ _
  refine law_contract tok laidOut (ts := [40, 3]) (tb := 4) 8 (by kernel_rfl) (by kernel_rfl) (by kernel_rfl) (by kernel_rfl) rfl ?_ ?_ hval hW
  · intro ds hd
    match ds, hd with
    | [d1, d2], _ => exact ⟨rfl, rfl, rfl⟩
  · intro xs hl ha
    obtain ⟨a0, a1, rfl⟩ := two hl
    obtain ⟨l, rfl⟩ := steps_of (ha 0 40 a0 rfl rfl)
    obtain ⟨t, rfl, _⟩ := int_of (ha 1 3 a1 rfl rfl)
    exact plays_law l t

theorem netPlays_holds : Rows.NetPlaysSaid :=
  OpenClaim.holds_of_wide 5 Try.f5 rfl rfl rfl rfl rfl rfl rfl ⟨rfl, rfl, rfl, rfl, rfl⟩ rfl rfl rfl rfl rfl (by kernel_rfl) Try.func5 (by kernel_rfl)
    (of_decide_eq_true (by kernel_rfl)) (by unfold Func.isWrapper; first | (rw [if_pos (by decide +kernel)]; kernel_rfl) | (rw [if_neg (by decide +kernel)]; exact ⟨rfl, rfl⟩))
    (fun os started H enc _ => netPlays_lifted os started H enc)
end Go.Proofs.Ytdogeolaaejinaa
