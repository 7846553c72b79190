/- The abstract layer, part 22: what the cells of plain data are, type by type. -/
import Derived.Test.YtmjookofajlcoaaAx21
namespace Go.Ax

theorem one_cells {y : AV} (h : y.one = true) : y.cells = [y] := by cases y <;> first | rfl | cases h

section
variable {TT : Nat → TI} {t : TypeId} {as : List AV}

theorem Sh.int_inv {k : IntKind} (h : Sh TT t as) (hu : (TT t).und = .int k) : ∃ n, as = [.v (.int k n)] ∧ k.min ≤ n ∧ n ≤ k.max := by
  cases h with
  | int n h hn => rw [hu] at h; cases h; exact ⟨n, rfl, hn⟩
  | bool _ h | str _ h | slice _ h | struct _ h | array _ h => rw [hu] at h; cases h
theorem Sh.bool_inv (h : Sh TT t as) (hu : (TT t).und = .bool) : ∃ b, as = [.v (.bool b)] := by
  cases h with
  | bool b h => exact ⟨b, rfl⟩
  | int _ h | str _ h | slice _ h | struct _ h | array _ h => rw [hu] at h; cases h
theorem Sh.str_inv (h : Sh TT t as) (hu : (TT t).und = .string) : ∃ s, as = [.v (.string s)] ∧ s.size ≤ maxLen := by
  cases h with
  | str s h hs => exact ⟨s, rfl, hs⟩
  | int _ h | bool _ h | slice _ h | struct _ h | array _ h => rw [hu] at h; cases h
theorem Sh.slice_inv {e : TypeId} (h : Sh TT t as) (hu : (TT t).und = .slice e) : ∃ rows : List (List AV), as = [.vec rows.length rows.flatten] ∧ rows.length ≤ maxLen ∧ (∀ r ∈ rows, Sh TT e r) ∧ ∀ r ∈ rows, r.length = (TT e).size := by
  cases h with
  | slice rows h hl hr hs => rw [hu] at h; cases h; exact ⟨rows, rfl, hl, hr, hs⟩
  | int _ h | bool _ h | str _ h | struct _ h | array _ h => rw [hu] at h; cases h
theorem Sh.struct_inv {fs : Array Field} (h : Sh TT t as) (hu : (TT t).und = .struct fs) : ∃ rows : List (List AV), as = rows.flatten ∧ rows.length = fs.size ∧ (∀ (i : Nat) f r, fs[i]? = some f → rows[i]? = some r → Sh TT f.type r) ∧ ∀ (i : Nat) f r, fs[i]? = some f → rows[i]? = some r → r.length = (TT f.type).size := by
  cases h with
  | struct rows h hl hr hs => rw [hu] at h; cases h; exact ⟨rows, rfl, hl, hr, hs⟩
  | int _ h | bool _ h | str _ h | slice _ h | array _ h => rw [hu] at h; cases h
theorem Sh.array_inv {n : Nat} {e : TypeId} (h : Sh TT t as) (hu : (TT t).und = .array n e) : ∃ rows : List (List AV), as = rows.flatten ∧ rows.length = n ∧ (∀ r ∈ rows, Sh TT e r) ∧ ∀ r ∈ rows, r.length = (TT e).size := by
  cases h with
  | array rows h hl hr hs => rw [hu] at h; cases h; exact ⟨rows, rfl, hl, hr, hs⟩
  | int _ h | bool _ h | str _ h | slice _ h | struct _ h => rw [hu] at h; cases h

theorem ShV.one {a : AV} (h : ShV TT t a) (ha : (TT t).agg = false) : Sh TT t [a] := by simpa [ShV, ha] using h
theorem ShV.cells {a : AV} (h : ShV TT t a) (ha : (TT t).agg = true) : ∃ cs, a = .agg cs ∧ Sh TT t cs := by simpa [ShV, ha] using h

def byteA (l : List UInt8) : List AV := l.map fun x => .v (.int .u8 (x.toNat : Int))

/-- Rows that are each what g makes of something. -/
theorem rows_of {α : Type} {p : List AV → Prop} {g : α → List AV} (hg : ∀ r, p r → ∃ x, r = g x) : ∀ rows : List (List AV), (∀ r ∈ rows, p r) → ∃ xs : List α, xs.length = rows.length ∧ rows = xs.map g
  | [], _ => ⟨[], rfl, rfl⟩
  | r :: rs, h => by
    obtain ⟨x, rfl⟩ := hg r (h r (by simp))
    obtain ⟨xs, h1, h2⟩ := rows_of hg rs (fun q hq => h q (by simp [hq]))
    exact ⟨x :: xs, by simp [h1], by rw [h2]; rfl⟩

theorem flat_single {α β : Type} (g : α → β) (l : List α) : (l.map fun x => [g x]).flatten = l.map g := by
  induction l with
  | nil => rfl
  | cons a r ih => simp [ih]

theorem byte_of (n : Int) (h1 : IntKind.u8.min ≤ n) (h2 : n ≤ IntKind.u8.max) : ∃ x : UInt8, n = (x.toNat : Int) := by
  simp [IntKind.min, IntKind.max, IntKind.signed, IntKind.bits] at h1 h2
  refine ⟨UInt8.ofNat n.toNat, ?_⟩
  rw [UInt8.toNat_ofNat']
  omega

/-- A slice of bytes. -/
theorem Sh.bytes_inv {e : TypeId} (h : Sh TT t as) (hu : (TT t).und = .slice e) (he : (TT e).und = .int .u8) : ∃ bs : List UInt8, as = [.vec bs.length (byteA bs)] ∧ bs.length ≤ maxLen := by
  obtain ⟨rows, rfl, hl, hr, _⟩ := h.slice_inv hu
  obtain ⟨bs, h1, rfl⟩ := rows_of (g := fun x : UInt8 => [AV.v (.int .u8 (x.toNat : Int))]) (fun r hr => by
    obtain ⟨n, rfl, h1, h2⟩ := Sh.int_inv hr he
    obtain ⟨x, rfl⟩ := byte_of n h1 h2
    exact ⟨x, rfl⟩) rows hr
  refine ⟨bs, ?_, by simpa using hl⟩
  rw [flat_single, List.length_map]
  rfl
/-- A slice of integers. -/
theorem Sh.ints_inv {e : TypeId} {k : IntKind} (h : Sh TT t as) (hu : (TT t).und = .slice e) (he : (TT e).und = .int k) : ∃ ns : List Int, as = [.vec ns.length (ns.map fun n => .v (.int k n))] ∧ ns.length ≤ maxLen ∧ ∀ n ∈ ns, k.min ≤ n ∧ n ≤ k.max := by
  obtain ⟨rows, rfl, hl, hr, _⟩ := h.slice_inv hu
  obtain ⟨ns, h1, rfl⟩ := rows_of (g := fun n : {n : Int // k.min ≤ n ∧ n ≤ k.max} => [AV.v (.int k n.1)]) (fun r hr => by
    obtain ⟨n, rfl, h1, h2⟩ := Sh.int_inv hr he
    exact ⟨⟨n, h1, h2⟩, rfl⟩) rows hr
  refine ⟨ns.map (·.1), ?_, by simpa using hl, fun n hn => ?_⟩
  · rw [flat_single, List.length_map, List.length_map, List.map_map]
    rfl
  · obtain ⟨x, _, rfl⟩ := List.mem_map.1 hn
    exact x.2
end
end Go.Ax
