/- The sort of replicas: the shelf's contract as an abstract call. -/
import Derived.Test.YtmjookofajlcoaaC
import Derived.Shelf.SlSortCmp.NoneTotal
namespace Go.Proofs.Ytmjookofajlcoaa
open Go.Ax
open Cel (c)
set_option linter.unusedSimpArgs false
set_option linter.unusedVariables false

instance : Inhabited Rep := ⟨⟨0, 0⟩⟩
def encR (r : Rep) : List Value := [.int .i64 r.id, .int .i64 r.off]
def cfR (x y : Rep) : Int := orI (Lib.compareInt y.off x.off) (Lib.compareInt x.id y.id)
theorem ltR (x y : Rep) : ltOf cfR x y = ahead x y := by
  simp only [ltOf, cfR, orI, Lib.compareInt, ahead]
  by_cases h1 : y.off < x.off
  · simp [h1]
  · by_cases h2 : x.off < y.off
    · have h3 : ¬ x.off = y.off := by omega
      simp [h1, h2, h3]
    · have h3 : x.off = y.off := by omega
      by_cases h4 : x.id < y.id
      · simp [h3, h4]
      · by_cases h5 : y.id < x.id <;> simp [h3, h4, h5]
theorem swoR : Sort.SWO (ltOf cfR) where
  irrefl x := by rw [ltR, ahead_no]; omega
  trans x y z h1 h2 := by rw [ltR, ahead_iff] at *; omega
  ntrans x y z h1 h2 := by rw [ltR, ahead_no] at *; omega
theorem flat_enc (l : List Rep) : flat l = (l.flatMap encR).map .v := by
  induction l with
  | nil => rfl
  | cons a r ih => rw [flat_cons, List.flatMap_cons, List.map_append, ih]; rfl

theorem sort_calls (H : AHeap) (l : List Rep) (D : Nat) (hD : H.get D = some (.cells 29 (flat l))) (hlen : l.length ≤ 8000000) :
    ACalls Try.prog 26 [.sl D 0 l.length 2, .func (.func 20) []] H (fun r H' => r = .tup [] ∧ H' = H.set D (.cells 29 (flat (ordR l)))) := by
  intro ρ I w vs hc ha
  obtain ⟨u0, u1, rfl⟩ : ∃ u0 u1, vs = [u0, u1] := by
    have := ha.1
    match vs, this with
    | [a, b], _ => exact ⟨a, b, rfl⟩
  have h0 := ha.2 0 _ u0 rfl rfl
  have h1 := ha.2 1 _ u1 rfl rfl
  obtain ⟨B, q, hB, rfl, hq1, hq2, hq3⟩ : ∃ B q, ρ D = some B ∧ u0 = .slice (some ⟨B.b, 0, none⟩) l.length q ∧ l.length ≤ q ∧ q ≤ maxLen ∧ 0 + q * 2 ≤ B.sz := by
    cases h0 with | sl hB hl hm hs => exact ⟨_, _, hB, rfl, hl, hm, hs⟩
  obtain rfl : u1 = .func (.func 20) #[] #[] := by
    cases h1 with | @func _ _ vs hl hv => cases vs with | nil => rfl | cons a r => simp at hl
  obtain ⟨B', hB', _, arr, g1, g2, g3, g4⟩ := hc.obj D _ hD
  rw [hB] at hB'; cases hB'
  have hfl := flat_length l
  have hF : ∀ (j : Nat) (v : Value), (l.flatMap encR)[j]? = some v → arr[j]? = some v := by
    intro j v hv
    have hj : j < (l.flatMap encR).length := (List.getElem?_eq_some_iff.1 hv).1
    rw [fm_length (k := 2) (fun _ => rfl)] at hj
    have hja : j < arr.size := by have : (flat l).length = l.length * 2 := hfl; omega
    have hcell : (flat l)[j]? = some (.v v) := by rw [flat_enc, List.getElem?_map, hv]; rfl
    have := g4 j _ arr[j] hcell (by simp [hja])
    rw [Array.getElem?_eq_getElem hja]
    cases this; rfl
  have hH : Sort.HoldsK encR 2 w B.b 0 l.toArray := by
    intro j hj
    have hv : (l.flatMap encR)[j]? = some (Sort.flatK encR 2 l.toArray)[j]! := by
      have h := flatK_list (f := encR) (k := 2) (fun _ => rfl) l.toArray
      rw [getElem!_pos (Sort.flatK encR 2 l.toArray) j hj]
      have : (Sort.flatK encR 2 l.toArray).toList[j]? = some (Sort.flatK encR 2 l.toArray)[j] := by simp [hj]
      rwa [h] at this
    have := hF j _ hv
    constructor
    · rw [Nat.zero_add]
      simp only [World.cell?, g1]
      simpa using this
    · simp only [World.frozen?, g1]
      simp
  have hcon := AnyQ.slices_SortFunc sortR 2 Try.isAgg29 Try.sizeOf29 encR (fun _ => rfl) (fun x v hv => by simp [encR] at hv; rcases hv with rfl | rfl <;> rfl) cfR swoR 20 #[] B.b 0 q l.toArray w
    (enters_of Try.func20 (by kernel_rfl) rfl) (fun _ _ _ _ x y => before x.id x.off y.id y.off _) hH (Array.getElem?_eq_some_iff.1 g1).1 (by simp; omega)
  change Calls Try.prog 26 _ _ _ at hcon
  refine Calls.mono hcon ?_
  rintro e w' ⟨rfl, d', n, os, hp, hs, rfl⟩
  have hsz : d'.size = l.length := by simpa using hp.1
  have hm : d'.toList = ordR l := by
    refine ord_unique ?_ ?_
    · have h := hp.2.2
      simp only [List.size_toArray] at h
      rw [← hsz, Array.extract_size, hsz] at h
      simpa using h
    · refine List.pairwise_iff_getElem.2 fun i j hi hj hij => ?_
      have h := hs i j (Nat.zero_le _) hij (by simpa [hsz] using hj)
      rw [ltR, getElem!_pos d' i (by simpa using hi), getElem!_pos d' j (by simpa using hj)] at h
      simpa using h
  have hG : Sort.flatK encR 2 d' = ((ordR l).flatMap encR).toArray := by
    apply Array.ext'
    rw [flatK_list (f := encR) (k := 2) (fun _ => rfl), hm]
  have hlG : ((ordR l).flatMap encR).length = (l.flatMap encR).length := by rw [fm_length (k := 2) (fun _ => rfl), fm_length (k := 2) (fun _ => rfl), ord_length]
  obtain ⟨c1, c2⟩ := hc.putRow (F := l.flatMap encR) (G := (ordR l).flatMap encR) (by rw [hD, flat_enc]) hB hlG n os
  refine ⟨_, .tup [], ρ, I, _, rfl, ⟨rfl, rfl⟩, .tup (vs := []) rfl (by simp), ?_, ?_⟩
  · rw [flat_enc]
    show Conc ρ I (Sort.grow (Sort.putRow id (Sort.ahead w n) B.b 0 (Sort.flatK encR 2 d')) os) _
    rw [hG]; exact c1
  · rw [flat_enc]
    show Ev ρ I w H ρ I (Sort.grow (Sort.putRow id (Sort.ahead w n) B.b 0 (Sort.flatK encR 2 d')) os) _
    rw [hG]; exact c2

theorem sort_nil (H : AHeap) : ACalls Try.prog 26 [.v (.slice none 0 0), .func (.func 20) []] H (fun r H' => r = .tup [] ∧ H' = H) := by
  refine ACalls.of_below fun ρ I w vs hc ha => ?_
  obtain ⟨u0, u1, rfl⟩ : ∃ u0 u1, vs = [u0, u1] := by
    have := ha.1
    match vs, this with
    | [a, b], _ => exact ⟨a, b, rfl⟩
  have h0 := ha.2 0 _ u0 rfl rfl
  have h1 := ha.2 1 _ u1 rfl rfl
  obtain rfl : u0 = .slice none 0 0 := by cases h0; rfl
  have hcon := AnyF.slices_SortFunc_none { sortR with } none 0 u1 w
  change Calls Try.prog 26 _ _ _ at hcon
  refine Calls.mono hcon ?_
  rintro e w' ⟨rfl, rfl⟩
  exact ⟨_, rfl, .tup (vs := []) rfl (by simp), RowKit.Below.refl _ _⟩
end Go.Proofs.Ytmjookofajlcoaa
