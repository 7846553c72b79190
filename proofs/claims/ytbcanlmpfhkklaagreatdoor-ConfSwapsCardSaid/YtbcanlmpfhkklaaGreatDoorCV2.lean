/- Texts whose lines are swapped, plainly. -/
import Derived.Test.YtbcanlmpfhkklaaGreatDoorCU
set_option linter.unusedSimpArgs false
set_option linter.unusedVariables false
namespace Go.Proofs.YtbcanlmpfhkklaaGreatDoor
open Go.Ax
open Cel (c)
set_option linter.unusedSimpArgs false
set_option linter.unusedVariables false

/-- What a line behind the first tells. -/
inductive It where
  | kn (a : Kn)
  | pr (a : Int × Int)
def It.ln (g : Nat → Int × Int) : It → List Prt
  | .kn k => lineK k
  | .pr p => lineP g p
def items (s : Stt) : List It := s.known.map .kn ++ (pairsG s.g).map .pr
theorem rest_items (s : Stt) : restL s = (items s).map (It.ln s.g) := by
  rw [restL, items, List.map_append, List.map_map, List.map_map]; rfl
def It.ok (s : Stt) : It → Prop
  | .kn k => k ∈ s.known
  | .pr p => p ∈ pairsG s.g
def putI' (g : Nat → Int × Int) (t : Stt) : It → Stt
  | .kn k => addK t k
  | .pr p => putP g t p
theorem read_items {s : Stt} (r : Rt s) : ∀ (L : List It) (t : Stt), (∀ x ∈ L, x.ok s) → readL false t (L.map fun x => jL (x.ln s.g)) = some (L.foldl (putI' s.g) t)
  | [], t, _ => rfl
  | .kn k :: L, t, h => by
    rw [List.map_cons, readL, show jL ((It.kn k).ln s.g) = jL (lineK k) from rfl, stepK r (h _ (List.mem_cons_self ..))]
    exact read_items r L _ fun q hq => h q (List.mem_cons_of_mem _ hq)
  | .pr p :: L, t, h => by
    obtain ⟨i, hi, e⟩ := (mem_pairsG.1 (h (.pr p) (List.mem_cons_self ..))).2
    obtain ⟨h1, h2, h3⟩ := r.slot i hi
    have e1 : s.ow i = p.1 := congrArg Prod.fst e
    have e2 : s.ep i = p.2 := congrArg Prod.snd e
    rw [List.map_cons, readL, show jL ((It.pr p).ln s.g) = jL (lineP s.g p) from rfl, lineP, stepQ _ ⟨by omega, by omega⟩ ⟨by omega, by omega⟩]
    exact read_items r L _ fun q hq => h q (List.mem_cons_of_mem _ hq)
def kns : List It → List Kn
  | [] => []
  | .kn k :: L => k :: kns L
  | .pr _ :: L => kns L
def prs : List It → List (Int × Int)
  | [] => []
  | .kn _ :: L => prs L
  | .pr p :: L => p :: prs L
theorem fold_items (g : Nat → Int × Int) : ∀ (L : List It) (t : Stt), L.foldl (putI' g) t = (prs L).foldl (putP g) { t with known := t.known ++ kns L }
  | [], t => by rw [kns, List.append_nil]; rfl
  | .kn k :: L, t => by
    rw [List.foldl_cons, show putI' g t (.kn k) = addK t k from rfl, fold_items g L, kns, prs]
    simp only [addK, List.append_assoc, List.singleton_append]
  | .pr p :: L, t => by
    rw [List.foldl_cons, show putI' g t (.pr p) = putP g t p from rfl, fold_items g L, kns, prs, List.foldl_cons]
    rfl
theorem kns_app : ∀ (a b : List It), kns (a ++ b) = kns a ++ kns b
  | [], b => rfl
  | .kn k :: a, b => by rw [List.cons_append, kns, kns, kns_app a b]; rfl
  | .pr p :: a, b => by rw [List.cons_append, kns, kns, kns_app a b]
theorem prs_app : ∀ (a b : List It), prs (a ++ b) = prs a ++ prs b
  | [], b => rfl
  | .kn k :: a, b => by rw [List.cons_append, prs, prs, prs_app a b]
  | .pr p :: a, b => by rw [List.cons_append, prs, prs, prs_app a b]; rfl
theorem kns_items (s : Stt) : kns (items s) = s.known ∧ prs (items s) = pairsG s.g := by
  have h1 : ∀ l : List Kn, kns (l.map .kn) = l ∧ prs (l.map .kn) = [] := by
    intro l; induction l with
    | nil => exact ⟨rfl, rfl⟩
    | cons a r ih => exact ⟨by rw [List.map_cons, kns, ih.1], by rw [List.map_cons, prs, ih.2]⟩
  have h2 : ∀ l : List (Int × Int), kns (l.map .pr) = [] ∧ prs (l.map .pr) = l := by
    intro l; induction l with
    | nil => exact ⟨rfl, rfl⟩
    | cons a r ih => exact ⟨by rw [List.map_cons, kns, ih.1], by rw [List.map_cons, prs, ih.2]⟩
  rw [items, kns_app, prs_app, (h1 _).1, (h1 _).2, (h2 _).1, (h2 _).2]
  simp
theorem items_ok (s : Stt) : ∀ x ∈ items s, x.ok s := by
  intro x hx
  rcases List.mem_append.1 hx with hx | hx
  · obtain ⟨k, hk, rfl⟩ := List.mem_map.1 hx; exact hk
  · obtain ⟨p, hp, rfl⟩ := List.mem_map.1 hx; exact hp
/-- Two neighbours of a list, swapped. -/
theorem swap_lines {s : Stt} (ok : s.Ok) (hr : rightB s = true) {a b : List It} {x y : It} (he : items s = a ++ x :: y :: b) : parseP (docL (lineH s :: (a ++ y :: x :: b).map (It.ln s.g))) = none := by
  have r := right_rt hr
  have hok := items_ok s
  rw [he] at hok
  have hok2 : ∀ z ∈ a ++ y :: x :: b, z.ok s := fun z hz => hok z (by
    rw [List.mem_append, List.mem_cons, List.mem_cons] at hz ⊢
    rcases hz with h | h | h | h
    · exact .inl h
    · exact .inr (.inr (.inl h))
    · exact .inr (.inl h)
    · exact .inr (.inr (.inr h)))
  have hlf : ∀ ps ∈ lineH s :: (a ++ y :: x :: b).map (It.ln s.g), NoLF ps := fun ps hps => by
    rcases List.mem_cons.1 hps with rfl | hps
    · exact lineH_lf r
    · obtain ⟨z, hz, rfl⟩ := List.mem_map.1 hps
      have := hok2 z hz
      cases z with
      | kn k => exact lineK_lf r this
      | pr p => exact lineP_lf r (mem_pairsG.1 this).2
  have hraw : rawP (docL (lineH s :: (a ++ y :: x :: b).map (It.ln s.g))) = some ((prs (a ++ y :: x :: b)).foldl (putP s.g) { hdS zS [s.id, s.master, s.cur, s.vote, s.cfg] with known := kns (a ++ y :: x :: b) }) := by
    rw [rawP, lines_doc (by simp) hlf, List.map_cons, readL, stepH r]
    show readL false (hdS zS _) _ = _
    rw [List.map_map, show (jL ∘ It.ln s.g) = fun x => jL (x.ln s.g) from rfl, read_items r _ _ hok2, fold_items]
    rfl
  have hk : kns (a ++ x :: y :: b) = s.known := by rw [← he]; exact (kns_items s).1
  have hp : prs (a ++ x :: y :: b) = pairsG s.g := by rw [← he]; exact (kns_items s).2
  have hdoc : docT s = docL (lineH s :: (a ++ x :: y :: b).map (It.ln s.g)) := by rw [docT, allL_eq, ← he, ← rest_items]; rfl
  -- the members of the pairs are the same
  have hpm : ∀ p, p ∈ prs (a ++ y :: x :: b) ↔ p ∈ pairsG s.g := fun p => by
    rw [← hp, prs_app, prs_app, List.mem_append, List.mem_append]
    cases x <;> cases y <;> simp only [prs, List.mem_cons]
    constructor
    · rintro (h | h | h | h)
      · exact .inl h
      · exact .inr (.inr (.inl h))
      · exact .inr (.inl h)
      · exact .inr (.inr (.inr h))
    · rintro (h | h | h | h)
      · exact .inl h
      · exact .inr (.inr (.inl h))
      · exact .inr (.inl h)
      · exact .inr (.inr (.inr h))
  cases hq : parseP (docL (lineH s :: (a ++ y :: x :: b).map (It.ln s.g))) with
  | none => rfl
  | some q =>
    obtain ⟨h1, h2⟩ := parse_some hq
    rw [parseP, hraw] at hq
    have hq : (if _ ∧ _ then some _ else none) = some q := hq
    split at hq
    · rename_i hcond
      have hqe := Option.some.inj hq
      by_cases hxy : ∃ k1 k2, x = .kn k1 ∧ y = .kn k2
      · -- two nodes: they don't rise
        obtain ⟨k1, k2, rfl, rfl⟩ := hxy
        have hkn : q.known = kns (a ++ .kn k2 :: .kn k1 :: b) := by
          rw [← hqe]
          exact (putP_facts s.g _ ({ hdS zS [s.id, s.master, s.cur, s.vote, s.cfg] with known := kns (a ++ .kn k2 :: .kn k1 :: b) } : Stt) ⟨zS_ok.o, zS_ok.e⟩).2.2.2.2.2.2.2
        have hrise := (right_rt h1).rise
        have hrise2 := r.rise
        rw [hkn, kns_app, kns, kns, List.pairwise_append] at hrise
        rw [← hk, kns_app, kns, kns, List.pairwise_append] at hrise2
        have q1 := (List.pairwise_cons.1 hrise.2.1).1 k1 (List.mem_cons_self ..)
        have q2 := (List.pairwise_cons.1 hrise2.2.1).1 k2 (List.mem_cons_self ..)
        omega
      · -- else the state is the same, but its text is not
        have hkn : kns (a ++ y :: x :: b) = s.known := by
          rw [← hk, kns_app, kns_app]
          congr 1
          cases x with
          | kn k1 => cases y with
            | kn k2 => exact absurd ⟨k1, k2, rfl, rfl⟩ hxy
            | pr p2 => rfl
          | pr p1 => cases y <;> rfl
        have hqs : q = s := by
          rw [← hqe, hkn]
          exact fold_state ok r hpm
        rw [hqs, hdoc] at h2
        have h3 : splitB 10 (Lib.trimSuffix (docL (lineH s :: (a ++ x :: y :: b).map (It.ln s.g))) [10]) = splitB 10 (Lib.trimSuffix (docL (lineH s :: (a ++ y :: x :: b).map (It.ln s.g))) [10]) := by rw [h2]
        have hall := all_lf r
        rw [lines_doc (by simp) hlf, lines_doc (by simp) (fun ps hps => hall ps (by rw [allL_eq]; rw [← he, ← rest_items] at hps; exact hps))] at h3
        simp only [List.map_cons, List.map_append, List.cons.injEq, true_and] at h3
        have h4 := List.append_cancel_left h3
        have h5 := (List.cons.inj h4).1
        -- one line read tells the item
        have hx := hok x (by simp)
        have hy := hok y (by simp)
        have hne : x ≠ y := by
          intro e
          subst e
          cases x with
          | kn k1 => exact hxy ⟨k1, k1, rfl, rfl⟩
          | pr p1 =>
            have := pairsG_nodup s.g
            rw [← hp, prs_app, prs, prs, List.nodup_append] at this
            exact (List.nodup_cons.1 this.2.1).1 (List.mem_cons_self ..)
        cases x with
        | kn k1 =>
          cases y with
          | kn k2 => exact absurd ⟨k1, k2, rfl, rfl⟩ hxy
          | pr p2 =>
            have e1 : ∃ r', jL (lineK k1) = 110 :: r' := ⟨_, rfl⟩
            have e2 : ∃ r', jL (lineP s.g p2) = 115 :: r' := ⟨_, rfl⟩
            obtain ⟨r1, e1⟩ := e1; obtain ⟨r2, e2⟩ := e2
            have h6 : jL (lineK k1) = jL (lineP s.g p2) := h5
            rw [e1, e2] at h6
            exact absurd (List.cons.inj h6).1 (by decide)
        | pr p1 =>
          cases y with
          | kn k2 =>
            have e1 : ∃ r', jL (lineK k2) = 110 :: r' := ⟨_, rfl⟩
            have e2 : ∃ r', jL (lineP s.g p1) = 115 :: r' := ⟨_, rfl⟩
            obtain ⟨r1, e1⟩ := e1; obtain ⟨r2, e2⟩ := e2
            have h6 : jL (lineP s.g p1) = jL (lineK k2) := h5
            rw [e1, e2] at h6
            exact absurd (List.cons.inj h6).1 (by decide)
          | pr p2 =>
            have h6 : jL (lineP s.g p1) = jL (lineP s.g p2) := h5
            have ih : ∀ p, p ∈ pairsG s.g → stepP false zS (jL (lineP s.g p)) = some (putP s.g zS p) := fun p hpp => by
              have := read_items r [.pr p] zS (fun z hz => by rw [List.mem_singleton.1 hz]; exact hpp)
              simp only [List.map_cons, List.map_nil, readL, List.foldl_cons, List.foldl_nil] at this
              cases hs : stepP false zS (jL ((It.pr p).ln s.g)) with
              | none => rw [hs] at this; cases this
              | some t => rw [hs] at this; exact hs.trans this
            have h7 := ih p1 hx
            rw [h6, ih p2 hy] at h7
            have h8 := Option.some.inj h7
            obtain ⟨_, i, hi, hgi⟩ := mem_pairsG.1 hx
            obtain ⟨hp20, _⟩ := mem_pairsG.1 hy
            have a1 := (putP_facts s.g [p1] zS zS_ok).2.1 i hi
            have a2 := (putP_facts s.g [p2] zS zS_ok).2.1 i hi
            simp only [List.foldl_cons, List.foldl_nil] at a1 a2
            rw [← h8, a2, putS, putS, hgi, if_pos rfl] at a1
            by_cases e : p1 = p2
            · exact absurd (by rw [e]) hne
            · rw [if_neg e, zero_g] at a1
              exact absurd (congrArg Prod.fst a1.symm) (mem_pairsG.1 hx).1
    · cases hq
end Go.Proofs.YtbcanlmpfhkklaaGreatDoor

/- The law ConfSwaps. -/

namespace Go.Proofs.YtbcanlmpfhkklaaGreatDoor
open Go.Ax
open Cel (c)
theorem qV21 {p : Prop} (h : p := by (conv => lhs; whnf); all_goals exact rfl) : p := h
theorem qV22 {p : Prop} (h : p := by first | omega | (simp only [za, zb, zc, zd]; omega)) : p := h
theorem qV23 {p : Prop} (h : p := by exact AStepD.extract rfl rfl rfl) : p := h
theorem qV24 {p : Prop} (h : p := by first | exact AStepD.neq rfl rfl rfl | exact AStepD.str_neq rfl rfl rfl | exact (AStepD.ptr_nil tok (.inl ⟨_, _, rfl⟩) rfl rfl rfl).2 rfl | exact (AStepD.nil_nil tok rfl rfl rfl rfl).2 rfl | exact (AStepD.bool_eq tok rfl rfl rfl rfl).2 rfl | exact (AStepD.ptr_same tok rfl rfl rfl rfl rfl).2 rfl | exact (AStepD.iface_nil tok rfl rfl rfl rfl).2 rfl | exact (AStepD.nilIface_nil tok rfl rfl rfl rfl).2 rfl) : p := h
theorem qV25 {p : Prop} (h : p := by exact AStepD.lss rfl rfl rfl) : p := h
theorem qV26 {p : Prop} (h : p := by intro h; first | (rw [h]; done) | (rw [h]; rfl) | (simp [h]; done) | (simp_all; done) | exact guard_true h) : p := h
theorem qV27 {p : Prop} (h : p := by (conv => lhs; whnf); all_goals first | exact rfl | (simp; done) | (simp; omega)) : p := h
theorem qV28 {p : Prop} (h : p := by first | with_reducible assumption | exact Cel.one _ | exact flat_ones _ | exact ones_nil | (simp only [List.forall_mem_cons, List.not_mem_nil, false_implies, implies_true, and_true, one_v, one_ptr, one_ip, one_sl, one_slc, one_vec, one_map, one_func, one_iface, Value.oneCell', *]; done) | (simp [AV.one, Value.oneCell', *]; done)) : p := h
theorem qV29 {p : Prop} (h : p := by first | exact IsSl.vec | exact IsSl.sl | exact IsSl.slc | exact IsSl.nil | with_reducible assumption) : p := h
theorem qV210 {p : Prop} (h : p := by simp [AV.one, Value.oneCell']) : p := h
theorem qV211 {p : Prop} (h : p := by first | exact rfl | exact (Int.toNat_of_nonneg (by omega)).symm) : p := h
theorem qV212 {p : Prop} (h : p := by first | omega | (simp; done) | (simp; omega) | (simp only [over, List.length_append, List.length_take, List.length_drop, *]; omega) | (simp_all; done) | (simp_all; omega)) : p := h
theorem qV213 {p : Prop} (h : p := by first | (simp only [Nat.zero_add, Nat.zero_mul, Nat.sub_zero, Nat.add_zero]; exact rfl) | exact rfl) : p := h
theorem qV214 {p : Prop} (h : p := by first | with_reducible assumption | exact rfl) : p := h
theorem qV215 {p : Prop} (h : p := by first | exact AStepD.eql rfl rfl rfl | exact AStepD.str_eql rfl rfl rfl | exact (AStepD.ptr_nil tok (.inl ⟨_, _, rfl⟩) rfl rfl rfl).1 rfl | exact (AStepD.nil_nil tok rfl rfl rfl rfl).1 rfl | exact (AStepD.bool_eq tok rfl rfl rfl rfl).1 rfl | exact (AStepD.ptr_same tok rfl rfl rfl rfl rfl).1 rfl | exact (AStepD.iface_nil tok rfl rfl rfl rfl).1 rfl | exact (AStepD.nilIface_nil tok rfl rfl rfl rfl).1 rfl) : p := h
theorem qV216 {p : Prop} (h : p := by exact AStepD.assign' rfl qV21) : p := h
theorem qV217 {p : Prop} (h : p := by first | with_reducible assumption | (simp (disch := (first | omega | (exact Lst.lab_ne (by with_reducible assumption) qV22) | (exact Lst.lab_new (by with_reducible assumption) qV22) | (refine id ?_; simp only [za, zb, zc, zd]; done) | (simp only [za, zb, zc, zd]; omega))) only [z1, z2, z3, z4, z5, z6, z7, z8, z9, ne_eq, *]; done) | (simp (disch := (first | omega | (exact Lst.lab_ne (by with_reducible assumption) qV22) | (exact Lst.lab_new (by with_reducible assumption) qV22) | (refine id ?_; simp only [za, zb, zc, zd]; done) | (simp only [za, zb, zc, zd]; omega))) only [z1, z2, z3, z4, z5, z6, z7, z8, z9, ne_eq, *]; exact rfl)) : p := h
theorem qV218 {p : Prop} (h : p := by exact AStepD.move' rfl qV21) : p := h
theorem qV219 {p : Prop} (h : p := by first | exact AStepD.pick_true' rfl rfl qV21 | exact AStepD.pick_false' rfl rfl qV21 | exact AStepD.and rfl _ _ _ rfl rfl qV26 rfl | exact AStepD.and' rfl _ _ rfl rfl rfl | exact AStepD.or rfl _ _ _ rfl rfl rfl qV26 | exact AStepD.or' rfl _ _ rfl rfl rfl) : p := h
theorem qV220 {p : Prop} (h : p := by repeat' (first | exact SubT.nil _ | refine SubT.cons_eq qV27 ?_)) : p := h
theorem qV221 {p : Prop} (h : p := by first | exact AStepD.len_str tok rfl rfl rfl rfl | exact AStepD.len_sl tok rfl qV21 qV29 rfl rfl | exact AStepD.len_arr tok rfl rfl rfl) : p := h
theorem qV222 {p : Prop} (h : p := by first | exact AStepD.indexAddr_flat tok rfl rfl rfl rfl rfl rfl rfl (show _ = 1 from rfl) rfl qV211 qV212 | exact AStepD.indexAddr_vec' tok rfl rfl rfl rfl rfl rfl (show _ = 1 from rfl) qV211 qV212 | exact AStepD.indexAddr_sl' tok rfl rfl rfl rfl rfl rfl (show _ = 1 from rfl) qV211 qV212 qV213 | exact AStepD.indexAddr_arr' tok rfl rfl rfl rfl rfl rfl (show _ = 1 from rfl) qV211 qV212 qV213) : p := h
set_option linter.unusedSimpArgs false
set_option linter.unusedVariables false
open Cel (c)

def fL (ps : List Prt) : List UInt8 := jL ps ++ [10]
theorem docL_snoc (ls : List (List Prt)) (m : Nat) (h : m < ls.length) : docL (ls.take (m + 1)) = docL (ls.take m) ++ fL ls[m] := by
  rw [take_next ls m h, docL_append, docL_one]; rfl
theorem docL_split (ls : List (List Prt)) (m : Nat) (h : m < ls.length) : docL ls = docL (ls.take m) ++ (fL ls[m] ++ docL (ls.drop (m + 1))) := by
  conv => lhs; rw [← List.take_append_drop (m + 1) ls, docL_append, docL_snoc ls m h, List.append_assoc]
theorem docL_flat (ls : List (List Prt)) : docL ls = (ls.map fL).flatten := by rw [docL, List.flatMap_def]; rfl
theorem str_part (l : List UInt8) (a b : Nat) : (str l).extract a b = str ((l.drop a).take (b - a)) := by
  apply ByteArray.ext
  simp [str]
theorem swap_app {α : Type} (a b : List α) (x y : α) : ((a ++ x :: y :: b).set a.length y).set (a.length + 1) x = a ++ y :: x :: b := by
  rw [List.set_append_right _ _ (Nat.le_refl _), Nat.sub_self, List.set_cons_zero, List.set_append_right _ _ (by omega), Nat.add_sub_cancel_left, List.set_cons_succ, List.set_cons_zero]
theorem over_str (l : List (List UInt8)) (i : Nat) (h : i < l.length) (v : List UInt8) : Ax.over (flat l) (i * 1) [strA v] = flat (l.set i v) := over_flat l i 0 h [strA v] v (Nat.le_refl _) rfl
theorem str_at (l : List (List UInt8)) (i : Nat) (h : i < l.length) : (flat l)[i * 1]? = some (strA l[i]) := flat_getc l i 0 h Nat.zero_lt_one
set_option maxHeartbeats 4000000 in
theorem swaps_law (H : AHeap) (s : Stt) (ok : s.Ok) (n : Int) (hn : n ≤ 9223372036854775807) : ACalls Tryz.prog 8 [stA s, .v (.int .i64 n)] H (fun r _ => r = .v (.bool true)) := by
  have hcs := ok.fc (vecA s.known)
  refine ACalls.of_body tok Tryz.func8 rfl Tryz.ntmps8 (Nat.le_of_ble_eq_true rfl) (fun base => ?_)
  refine AW.seq_region (fun K hK => ?_)
  refine AL.step rfl rfl rfl (by exact AStepD.box (cs := s.cs (vecA s.known)) rfl rfl (s.cs_one rfl)) ?_
  refine AL.step rfl rfl rfl qV216 ?_
  refine AL.nil_then (hK _ _ ?_); clear hK K
  refine AW.seq_k (fun K1 hK1 => ?_)
  refine AW.seq_region (fun K hK => ?_)
  refine AL.step rfl rfl rfl (by exact AStepD.callf rfl en9 rfl (anchor_calls _)) ?_
  refine AL.step rfl rfl rfl (by first | exact AStepD.not rfl rfl | exact AStepD.neg rfl rfl (by first | exact IntWalk.i64_in _ (by omega) | exact IntWalk.i64_in _ (by simp only [Bool.or_eq_true, Bool.and_eq_true, Bool.or_eq_false_iff, Bool.and_eq_false_iff, Bool.not_eq_true', Bool.not_eq_false', decide_eq_true_eq, decide_eq_false_iff_not, Int.not_lt, Int.not_le, beq_iff_eq] at *; omega) | exact rfl)) ?_
  refine AL.nil_then (hK _ _ ?_); clear hK K
  refine AW.cond_false rfl rfl (AW.skip ?_)
  refine hK1 _ _ ?_; try clear hK1 K1
  refine AW.seq_region (fun K hK => ?_)
  refine AL.step rfl rfl rfl (by exact AStepD.load_agg (cs := s.cs (vecA s.known)) (zs := s.cs (vecA s.known)) tok rfl rfl rfl qV217 rfl (show _ = 134 from rfl) (by omega) (by rw [List.drop_zero]; exact List.take_of_length_le (by omega))) ?_
  refine AL.step rfl rfl rfl (by exact AStepD.callf rfl en11 rfl (statetext_calls _ s ok)) ?_
  refine AL.step rfl rfl rfl qV218 ?_
  refine AL.step rfl rfl rfl qV23 ?_
  refine AL.step rfl rfl rfl qV23 ?_
  refine AL.step rfl rfl rfl qV216 ?_
  refine AL.step rfl rfl rfl qV216 ?_
  refine AL.nil_then (hK _ _ ?_); clear hK K
  refine AW.seq_k (fun K2 hK2 => ?_)
  refine AW.seq_region (fun K hK => ?_)
  refine AL.step rfl rfl rfl qV218 ?_
  refine AL.step rfl rfl rfl qV24 ?_
  refine AL.step rfl rfl rfl qV218 ?_
  first | refine AL.gstep rfl rfl rfl rfl rfl rfl rfl qV218 ?_ | refine AL.gskip rfl rfl rfl rfl rfl rfl rfl ?_ | refine AL.gnone rfl rfl rfl rfl rfl ?_ | refine AL.gmay rfl rfl rfl rfl rfl rfl (fun hb => by (try (apply AStepD.uncond 1 rfl (gpf hb))); exact qV218) ?_ | refine AL.gmay2 rfl rfl rfl rfl rfl rfl (fun _ hb => by (try (apply AStepD.uncond 1 rfl (gpf hb))); exact qV218) ?_
  first | refine AL.gstep rfl rfl rfl rfl rfl rfl rfl qV25 ?_ | refine AL.gskip rfl rfl rfl rfl rfl rfl rfl ?_ | refine AL.gnone rfl rfl rfl rfl rfl ?_ | refine AL.gmay rfl rfl rfl rfl rfl rfl (fun hb => by (try (apply AStepD.uncond 26 rfl (gpf hb))); exact qV25) ?_ | refine AL.gmay2 rfl rfl rfl rfl rfl rfl (fun _ hb => by (try (apply AStepD.uncond 26 rfl (gpf hb))); exact qV25) ?_
  refine AL.step rfl rfl rfl qV219 ?_
  refine AL.nil_then (hK _ _ ?_); clear hK K
  refine AW.cond _ rfl (fun hc => ?_) (fun hc => ?_)
  · refine AW.seq_region (fun K hK => ?_)
    refine AL.step rfl rfl rfl qV216 ?_
    refine AL.nil_then (hK _ _ ?_); clear hK K
    exact AW.ret (RetQ.mk (.inr rfl) (retA_tmp rfl qV21 retA_nil) rfl)
  obtain ⟨hr, h0⟩ : rightB s = true ∧ 0 ≤ n := by
    cases h : rightB s with
    | false => rw [h] at hc; cases hc
    | true =>
      rw [h] at hc
      have hc : (false || decide (n < 0)) = false := hc
      rw [Bool.false_or, decide_eq_false_iff_not] at hc
      exact ⟨rfl, by omega⟩
  clear hc
  obtain ⟨q, rfl⟩ := Int.eq_ofNat_of_zero_le h0
  rw [hr, if_pos rfl, if_pos rfl]
  have r := right_rt hr
  have hdl := doc_len hr
  obtain ⟨ls, hls⟩ : ∃ ls, ls = allL s := ⟨_, rfl⟩
  have hlf := all_lf r
  have hal := all_len r
  rw [← hls] at hlf hal
  have htd : docT s = docL ls := by rw [docT, hls]
  rw [htd] at hdl ⊢
  obtain ⟨t, ht⟩ : ∃ t, t = docL ls := ⟨_, rfl⟩
  rw [← ht] at hdl ⊢
  -- where a line's signs stand
  have hat : ∀ m (h : m < ls.length), (docL (ls.take m)).length + (jL ls[m]).length < t.length ∧ (∀ i, i < (jL ls[m]).length → at8 t ((docL (ls.take m)).length + i) ≠ 10) ∧ at8 t ((docL (ls.take m)).length + (jL ls[m]).length) = 10 ∧ (t.drop (docL (ls.take m)).length).take ((jL ls[m]).length + 1) = fL ls[m] ∧ (docL (ls.take (m + 1))).length = (docL (ls.take m)).length + (jL ls[m]).length + 1 := fun m h => by
    have h1 := docL_split ls m h
    have hl := jL_lf (hlf _ (List.getElem_mem h))
    rw [← ht] at h1
    have h2 : t.drop (docL (ls.take m)).length = fL ls[m] ++ docL (ls.drop (m + 1)) := by rw [h1]; exact List.drop_left ..
    have h3 : ∀ i, at8 t ((docL (ls.take m)).length + i) = ((fL ls[m] ++ docL (ls.drop (m + 1))).getD i 0).toNat := fun i => by
      rw [at8, List.getD_eq_getElem?_getD, List.getD_eq_getElem?_getD, ← h2, List.getElem?_drop]
    refine ⟨?_, fun i hi => ?_, ?_, ?_, ?_⟩
    · have := congrArg List.length h1
      rw [List.length_append, List.length_append, fL, List.length_append, List.length_singleton] at this
      omega
    · rw [h3, fL, List.append_assoc, List.getD_eq_getElem?_getD, List.getElem?_append_left hi, List.getElem?_eq_getElem hi, Option.getD_some]
      intro e
      exact hl ((UInt8.toNat_inj.1 (e.trans (by decide : (10 : Nat) = (10 : UInt8).toNat))) ▸ List.getElem_mem hi)
    · rw [h3, fL, List.append_assoc, List.getD_eq_getElem?_getD, List.getElem?_append_right (Nat.le_refl _), Nat.sub_self]; rfl
    · rw [h2, List.take_append_of_le_length (by rw [fL, List.length_append, List.length_singleton]; omega), List.take_of_length_le (by rw [fL, List.length_append, List.length_singleton]; omega)]
    · rw [docL_snoc ls m h, List.length_append, fL, List.length_append, List.length_singleton]; omega
  refine AW.skip ?_
  refine hK2 _ _ ?_; try clear hK2 K2
  refine AW.seq_region (fun K hK => ?_)
  refine AL.step rfl rfl rfl qV216 ?_
  refine AL.nil_then (hK _ _ ?_); clear hK K
  refine AW.seq_region (fun K hK => ?_)
  refine AL.step rfl rfl rfl qV216 ?_
  refine AL.nil_then (hK _ _ ?_); clear hK K
  refine AW.seq_k (fun K3 hK3 => ?_)
  refine AW.seq_region (fun K hK => ?_)
  refine AL.step rfl rfl rfl qV218 ?_
  refine AL.step rfl rfl rfl (by exact strA_len tok rfl rfl rfl rfl) ?_
  refine AL.step rfl rfl rfl qV218 ?_
  refine AL.nil_then (hK _ _ ?_); clear hK K
  refine AW.block ?_
  refine AW.loop_at (ι := Nat × Nat × AV) (fun x => [(31, .v (.int .i64 (x.1 : Nat))), (30, .v (.int .i64 (t.length : Nat))), (8, .v (.int .i64 ((docL (ls.take x.2.1)).length : Nat))), (7, x.2.2), (5, strA t), (1, .v (.int .i64 (q : Nat)))])
    (fun x H' => x.2.1 ≤ ls.length ∧ (docL (ls.take x.2.1)).length ≤ x.1 ∧ x.1 ≤ t.length ∧ (∀ h : x.2.1 < ls.length, x.1 ≤ (docL (ls.take x.2.1)).length + (jL ls[x.2.1]).length) ∧ Lst 9 0 H' x.2.2 ((ls.take x.2.1).map fL)) (fun x => t.length - x.1) (0, 0, .v (.slice none 0 0)) (by rw [List.take_zero]; exact qV220)
    ⟨Nat.zero_le _, Nat.le_refl _, Nat.zero_le _, fun _ => Nat.zero_le _, .nil⟩ ?_
  rintro ⟨i, m, y⟩ H2 ⟨hm, hlo, hit, hhi, hy⟩
  dsimp only at hm hlo hit hhi hy ⊢
  refine AW.seq_region (fun K hK => ?_)
  refine AL.step rfl rfl rfl qV25 ?_
  refine AL.nil_then (hK _ _ ?_); clear hK K
  refine AW.seq_k (fun K4 hK4 => ?_)
  refine AW.cond _ rfl (fun hc => ?_) (fun hc => ?_)
  · (try simp only [Bool.or_eq_true, Bool.and_eq_true, Bool.or_eq_false_iff, Bool.and_eq_false_iff, Bool.not_eq_true', Bool.not_eq_false', decide_eq_true_eq, decide_eq_false_iff_not, Int.not_lt, Int.not_le] at hc)
    have hil : i < t.length := by omega
    have hml : m < ls.length := by
      rcases Nat.lt_or_ge m ls.length with h | h
      · exact h
      · have : docL (ls.take m) = t := by rw [List.take_of_length_le h, ht]
        rw [this] at hlo; omega
    obtain ⟨a1, a2, a3, a4, a5⟩ := hat m hml
    have a6 := hhi hml
    have hyl := hy.isSl
    have hq80 : ((ls.take m).map fL).length ≤ 80 := by rw [List.length_map, List.length_take]; omega
    refine AW.skip ?_
    refine hK4 _ _ ?_; try clear hK4 K4
    refine AW.seq_k (fun K5 hK5 => ?_)
    refine AW.block ?_
    refine AW.seq_region (fun K hK => ?_)
    refine AL.step rfl rfl rfl qV218 ?_
    refine AL.step rfl rfl rfl qV216 ?_
    refine AL.nil_then (hK _ _ ?_); clear hK K
    obtain ⟨o, ho⟩ : ∃ o, o = (docL (ls.take m)).length := ⟨_, rfl⟩
    rw [← ho] at a1 a2 a3 a4 a5 a6 hlo ⊢
    by_cases h10 : i = o + (jL ls[m]).length
    · have h8 : at8 t i = 10 := by rw [h10]; exact a3
      refine AW.seq_region (fun K hK => ?_)
      refine AL.step rfl rfl rfl qV218 ?_
      refine AL.step rfl rfl rfl qV218 ?_
      refine AL.step rfl rfl rfl (by exact strA_index tok rfl rfl rfl rfl rfl rfl hil) ?_
      refine AL.step rfl rfl rfl (by exact AStepD.bool (AStepD.eql rfl rfl rfl) (c := true) (decide_eq_true (by rw [h8]; rfl))) ?_
      refine AL.nil_then (hK _ _ ?_); clear hK K
      refine AW.cond_true rfl rfl ?_
      refine AW.seq_region (fun K hK => ?_)
      refine AL.step rfl rfl rfl qV218 ?_
      refine AL.step rfl rfl rfl qV218 ?_
      refine AL.step rfl rfl rfl qV218 ?_
      refine AL.step rfl rfl rfl qV218 ?_
      refine AL.step rfl rfl rfl (by exact AStepD.add (r := ((i + 1 : Nat) : Int)) rfl rfl rfl (IntWalk.i64_in _ (by omega))) ?_
      refine AL.step rfl rfl rfl (by exact AStepD.val (AStepD.slice_str' (l := o) (h := i + 1) tok rfl rfl rfl rfl rfl rfl rfl rfl (by omega) (by rw [str_size]; omega)) (y := strA (fL ls[m])) (by rw [str_part, show i + 1 - o = (jL ls[m]).length + 1 by omega, a4])) ?_
      refine AL.step rfl rfl rfl (by exact AStepD.vec_flat (l := [fL ls[m]]) (AStepD.buildSlice1 tok rfl rfl rfl rfl (show _ = 1 from rfl) qV21 qV21 rfl (by decide) qV28) rfl rfl rfl) ?_
      refine AL.step rfl rfl rfl (by exact AStepD.append_lst (bk := 64) (l := (ls.take m).map fL) (y := y) (b := 0) (m := ((ls.take (m + 1)).map fL).length) tok rfl rfl hy rfl rfl rfl rfl rfl rfl (show _ = 1 from rfl) rfl rfl Ax.Src.vec rfl Nat.zero_lt_one (flat_ones _) (by show (_ + 1) * 64 ≤ _; omega) (by rw [List.length_map, List.length_take]; show _ + 1 ≤ _; omega) (by rw [take_next ls m hml, List.map_append, List.length_append]; rfl) (show flat ((ls.take m).map fL) ++ flat [fL ls[m]] = flat ((ls.take (m + 1)).map fL) by rw [take_next ls m hml, List.map_append, flat_append]; rfl)) ?_
      refine AL.step rfl rfl rfl qV216 ?_
      refine AL.nil_then (hK _ _ ?_); clear hK K
      refine AW.region ?_
      refine AL.step rfl rfl rfl qV218 ?_
      refine AL.step rfl rfl rfl (by exact AStepD.add (r := ((i + 1 : Nat) : Int)) rfl rfl rfl (IntWalk.i64_in _ (by omega))) ?_
      refine AL.step rfl rfl rfl qV216 ?_
      refine AL.nil ?_
      refine hK5 _ _ ?_; try clear hK5 K5
      refine AW.region ?_
      refine AL.step rfl rfl rfl (by exact AStepD.add (r := ((i + 1 : Nat) : Int)) rfl rfl rfl (IntWalk.i64_in _ (by omega))) ?_
      refine AL.step rfl rfl rfl qV218 ?_
      refine AL.nil ?_
      have h5 : (docL (ls.take (m + 1))).length = i + 1 := by omega
      refine ⟨(i + 1, m + 1, .sl H2.next 0 ((ls.take (m + 1)).map fL).length 1), by show t.length - (i + 1) < t.length - i; omega, (by rw [h5]; exact qV220), hml, Nat.le_of_eq h5, hil, fun h => ?_, ?_⟩
      · show i + 1 ≤ (docL (ls.take (m + 1))).length + _
        omega
      · have h6 := hy.app (Nat.zero_le _) (m := [fL ls[m]]) (n := ((ls.take (m + 1)).map fL).length) (by rw [take_next ls m hml, List.map_append, List.length_append]; rfl) (zs := flat ((ls.take (m + 1)).map fL)) (by rw [take_next ls m hml, List.map_append]; rfl)
        show Lst 9 0 _ _ ((ls.take (m + 1)).map fL)
        have h7 : (ls.take (m + 1)).map fL = (ls.take m).map fL ++ [fL ls[m]] := by rw [take_next ls m hml, List.map_append]; rfl
        rw [← h7] at h6
        exact h6
    · have hlt : i - o < (jL ls[m]).length := by omega
      have h8 : at8 t i ≠ 10 := by
        have := a2 (i - o) hlt
        rwa [show o + (i - o) = i by omega] at this
      refine AW.seq_region (fun K hK => ?_)
      refine AL.step rfl rfl rfl qV218 ?_
      refine AL.step rfl rfl rfl qV218 ?_
      refine AL.step rfl rfl rfl (by exact strA_index tok rfl rfl rfl rfl rfl rfl hil) ?_
      refine AL.step rfl rfl rfl (by exact AStepD.bool (AStepD.eql rfl rfl rfl) (c := false) (decide_eq_false (by omega))) ?_
      refine AL.nil_then (hK _ _ ?_); clear hK K
      refine AW.cond_false rfl rfl (AW.skip ?_)
      refine hK5 _ _ ?_; try clear hK5 K5
      refine AW.region ?_
      refine AL.step rfl rfl rfl (by exact AStepD.add (r := ((i + 1 : Nat) : Int)) rfl rfl rfl (IntWalk.i64_in _ (by omega))) ?_
      refine AL.step rfl rfl rfl qV218 ?_
      refine AL.nil ?_
      exact ⟨(i + 1, m, y), by show t.length - (i + 1) < t.length - i; omega, (by rw [← ho]; exact qV220), hm, by show (docL (ls.take m)).length ≤ i + 1; omega, hil, fun h => by show i + 1 ≤ (docL (ls.take m)).length + (jL ls[m]).length; omega, hy⟩
  (try simp only [Bool.or_eq_true, Bool.and_eq_true, Bool.or_eq_false_iff, Bool.and_eq_false_iff, Bool.not_eq_true', Bool.not_eq_false', decide_eq_true_eq, decide_eq_false_iff_not, Int.not_lt, Int.not_le] at hc)
  obtain rfl : i = t.length := by omega
  have hml : m = ls.length := by
    rcases Nat.lt_or_ge m ls.length with h | h
    · have := hhi h
      have := (hat m h).1
      omega
    · omega
  subst hml
  rw [List.take_length] at hy
  have hnl : (ls.map fL).length = ls.length := List.length_map ..
  have hyl := hy.isSl
  rw [hnl] at hyl
  refine AW.exit ?_
  refine hK3 _ _ ?_; try clear hK3 K3 hK4 K4
  refine AW.seq_k (fun K6 hK6 => ?_)
  refine AW.seq_region (fun K hK => ?_)
  refine AL.step rfl rfl rfl qV218 ?_
  refine AL.step rfl rfl rfl (by exact AStepD.len_sl tok rfl rfl hyl rfl rfl) ?_
  refine AL.step rfl rfl rfl qV25 ?_
  refine AL.nil_then (hK _ _ ?_); clear hK K
  refine AW.cond _ rfl (fun hc => ?_) (fun hc => ?_)
  · refine AW.seq_region (fun K hK => ?_)
    refine AL.step rfl rfl rfl qV216 ?_
    refine AL.nil_then (hK _ _ ?_); clear hK K
    exact AW.ret (RetQ.mk (.inr rfl) (retA_tmp rfl qV21 retA_nil) rfl)
  (try simp only [Bool.or_eq_true, Bool.and_eq_true, Bool.or_eq_false_iff, Bool.and_eq_false_iff, Bool.not_eq_true', Bool.not_eq_false', decide_eq_true_eq, decide_eq_false_iff_not, Int.not_lt, Int.not_le] at hc)
  have h3 : 3 ≤ ls.length := by omega
  obtain ⟨D, rfl, hD, hDn, hg⟩ := hy.at (by omega)
  rw [hnl]
  obtain ⟨L, hL⟩ : ∃ L, L = ls.map fL := ⟨_, rfl⟩
  rw [← hL] at hg hnl
  have hLl : 3 ≤ L.length := by omega
  have hmod := Nat.mod_lt q (show 0 < L.length - 2 by omega)
  refine AW.skip ?_
  refine hK6 _ _ ?_; try clear hK6 K6
  rw [← hnl]
  refine AW.seq_region (fun K hK => ?_)
  refine AL.step rfl rfl rfl qV218 ?_
  refine AL.step rfl rfl rfl qV218 ?_
  refine AL.step rfl rfl rfl qV221 ?_
  refine AL.step rfl rfl rfl (by exact AStepD.sub (r := ((L.length - 2 : Nat) : Int)) rfl rfl rfl (by rw [show (L.length : Int) - 2 = ((L.length - 2 : Nat) : Int) by omega]; exact IntWalk.i64_in _ (by omega))) ?_
  refine AL.step rfl rfl rfl (by exact AStepD.rem (r := ((q % (L.length - 2) : Nat) : Int)) rfl rfl rfl (by omega) (Int.ofNat_tmod _ _).symm) ?_
  refine AL.step rfl rfl rfl (by exact AStepD.add (r := ((1 + q % (L.length - 2) : Nat) : Int)) rfl rfl rfl (by rw [show (1 : Int) + ((q % (L.length - 2) : Nat) : Int) = ((1 + q % (L.length - 2) : Nat) : Int) by omega]; exact IntWalk.i64_in _ (by omega))) ?_
  refine AL.step rfl rfl rfl qV216 ?_
  refine AL.nil_then (hK _ _ ?_); clear hK K
  generalize hk : 1 + q % (L.length - 2) = k
  have hk1 : k < L.length := by omega
  have hk2 : k + 1 < L.length := by omega
  -- the lines, swapped
  have hit : ls = lineH s :: (items s).map (It.ln s.g) := by rw [hls, allL_eq, ← rest_items]; rfl
  have hil : (items s).length = ls.length - 1 := by rw [hit, List.length_cons, List.length_map]; omega
  obtain ⟨a, x, y, b, hab, hak⟩ : ∃ a x y b, items s = a ++ x :: y :: b ∧ a.length = k - 1 := by
    refine ⟨(items s).take (k - 1), (items s)[k - 1]'(by omega), (items s)[k - 1 + 1]'(by omega), (items s).drop (k - 1 + 1 + 1), ?_, by rw [List.length_take]; omega⟩
    rw [← List.drop_eq_getElem_cons, ← List.drop_eq_getElem_cons, List.take_append_drop]
  have hLe : L = (fL (lineH s) :: a.map fun z => fL (z.ln s.g)) ++ fL (x.ln s.g) :: fL (y.ln s.g) :: b.map fun z => fL (z.ln s.g) := by
    rw [hL, hit, hab]
    simp [List.map_map]; rfl
  have hpl : (fL (lineH s) :: a.map fun z => fL (z.ln s.g)).length = k := by rw [List.length_cons, List.length_map]; omega
  have hLk : L[k] = fL (x.ln s.g) := by
    simp only [hLe]
    rw [List.getElem_append_right (by omega)]
    simp only [hpl, Nat.sub_self, List.getElem_cons_zero]
  have hLk1 : L[k + 1] = fL (y.ln s.g) := by
    simp only [hLe]
    rw [List.getElem_append_right (by omega)]
    simp only [hpl, Nat.add_sub_cancel_left, List.getElem_cons_succ, List.getElem_cons_zero]
  have hsw : (L.set k (fL (y.ln s.g))).set (k + 1) (fL (x.ln s.g)) = (fL (lineH s) :: a.map fun z => fL (z.ln s.g)) ++ fL (y.ln s.g) :: fL (x.ln s.g) :: b.map fun z => fL (z.ln s.g) := by
    have h1 := swap_app (fL (lineH s) :: a.map fun z => fL (z.ln s.g)) (b.map fun z => fL (z.ln s.g)) (fL (x.ln s.g)) (fL (y.ln s.g))
    rw [hpl, ← hLe] at h1
    exact h1
  obtain ⟨L2, hL2⟩ : ∃ L2, L2 = (L.set k (fL (y.ln s.g))).set (k + 1) (fL (x.ln s.g)) := ⟨_, rfl⟩
  have hL2l : L2.length = L.length := by rw [hL2, List.length_set, List.length_set]
  have hfl : (flat L).length = L.length := (flat_length L).trans (Nat.mul_one _)
  have hfl2 : (flat (L.set k (fL (y.ln s.g)))).length = L.length := (flat_length _).trans (by rw [List.length_set]; exact Nat.mul_one _)
  have hdoc2 : L2.flatten = docL (lineH s :: (a ++ y :: x :: b).map (It.ln s.g)) := by
    rw [hL2, hsw, docL_flat]
    simp [List.map_map]; rfl
  have hno := swap_lines ok hr hab
  rw [← hdoc2] at hno
  have hlen2 : L2.flatten.length = t.length := by
    have e : t = L.flatten := by rw [ht, hL, docL_flat]
    rw [e, hL2, hsw, hLe]
    simp only [List.flatten_append, List.flatten_cons, List.length_append]; omega
  refine AW.seq_k (fun K hK => ?_)
  apply AW.draw mixed [_, _, _, _, _, _, _, _, _, _, _, _, _, _, _, _, _, _] [15, 17] [_, _, _] [(0, 0), (1, 0), (2, 0), (3, 0), (4, 0), (5, 0), (6, 0), (7, 0), (8, 0), (9, 0), (10, 0), (11, 0), (12, 0), (13, 0), (14, 0), (15, 0), (16, 1), (17, 1), (2, 1), (3, 1), (4, 1)] rfl rfl rfl (by simp only [List.getD_cons_zero, List.getD_cons_succ]; all_goals apply Eq.refl)
  · refine ⟨?_, ?_, ?_, ?_, ?_, ?_, ?_, ?_, ?_, ?_, ?_, ?_, ?_, ?_, ?_, ?_, ?_, ?_, ?_, ?_, ?_⟩
    · refine Ob.mk _ [7] 0 rfl rfl (restr_cons qV21 restr_nil) rfl ?_
      simp only [List.getD_cons_zero, List.getD_cons_succ]
      exact GStep.plain rfl qV218
    · refine Ob.mk _ [10] 0 rfl rfl (restr_cons qV21 restr_nil) rfl ?_
      simp only [List.getD_cons_zero, List.getD_cons_succ]
      exact GStep.plain rfl qV218
    · refine Ob.mk _ [7] 0 rfl rfl (restr_cons qV21 restr_nil) rfl ?_
      simp only [List.getD_cons_zero, List.getD_cons_succ]
      exact GStep.plain rfl qV218
    · refine Ob.mk _ [10] 0 rfl rfl (restr_cons qV21 restr_nil) rfl ?_
      simp only [List.getD_cons_zero, List.getD_cons_succ]
      exact GStep.plain rfl qV218
    · refine Ob.mk _ [61] 0 rfl rfl (restr_cons qV21 restr_nil) rfl ?_
      simp only [List.getD_cons_zero, List.getD_cons_succ]
      exact GStep.plain rfl (by exact AStepD.add (r := ((k + 1 : Nat) : Int)) rfl rfl rfl (IntWalk.i64_in _ (by omega)))
    · refine Ob.mk _ [7] 0 rfl rfl (restr_cons qV21 restr_nil) rfl ?_
      simp only [List.getD_cons_zero, List.getD_cons_succ]
      exact GStep.plain rfl qV218
    · refine Ob.mk _ [10] 0 rfl rfl (restr_cons qV21 restr_nil) rfl ?_
      simp only [List.getD_cons_zero, List.getD_cons_succ]
      exact GStep.plain rfl qV218
    · refine Ob.mk _ [64] 0 rfl rfl (restr_cons qV21 restr_nil) rfl ?_
      simp only [List.getD_cons_zero, List.getD_cons_succ]
      exact GStep.plain rfl (by exact AStepD.add (r := ((k + 1 : Nat) : Int)) rfl rfl rfl (IntWalk.i64_in _ (by omega)))
    · refine Ob.mk _ [63, 65] 0 rfl rfl (restr_cons qV21 (restr_cons qV21 restr_nil)) rfl ?_
      simp only [List.getD_cons_zero, List.getD_cons_succ]
      exact GStep.plain rfl (by exact AStepD.indexAddr_sl' (i := k + 1) (off' := (k + 1) * 1) tok rfl rfl rfl rfl rfl rfl (show _ = 1 from rfl) rfl hk2 (Nat.zero_add _))
    · refine Ob.mk _ [66] 0 rfl rfl (restr_cons qV21 restr_nil) rfl ?_
      simp only [List.getD_cons_zero, List.getD_cons_succ]
      exact GStep.plain rfl (by exact AStepD.load_one tok rfl rfl rfl rfl hg rfl (by rw [str_at L (k + 1) hk2, hLk1]))
    · refine Ob.mk _ [7] 0 rfl rfl (restr_cons qV21 restr_nil) rfl ?_
      simp only [List.getD_cons_zero, List.getD_cons_succ]
      exact GStep.plain rfl qV218
    · refine Ob.mk _ [10] 0 rfl rfl (restr_cons qV21 restr_nil) rfl ?_
      simp only [List.getD_cons_zero, List.getD_cons_succ]
      exact GStep.plain rfl qV218
    · refine Ob.mk _ [68, 69] 0 rfl rfl (restr_cons qV21 (restr_cons qV21 restr_nil)) rfl ?_
      simp only [List.getD_cons_zero, List.getD_cons_succ]
      exact GStep.plain rfl (by exact AStepD.indexAddr_sl' (i := k) (off' := k * 1) tok rfl rfl rfl rfl rfl rfl (show _ = 1 from rfl) rfl hk1 (Nat.zero_add _))
    · refine Ob.mk _ [70] 0 rfl rfl (restr_cons qV21 restr_nil) rfl ?_
      simp only [List.getD_cons_zero, List.getD_cons_succ]
      exact GStep.plain rfl (by exact AStepD.load_one tok rfl rfl rfl rfl hg rfl (by rw [str_at L k hk1, hLk]))
    · refine Ob.mk _ [58, 59] 0 rfl rfl (restr_cons qV21 (restr_cons qV21 restr_nil)) rfl ?_
      simp only [List.getD_cons_zero, List.getD_cons_succ]
      exact GStep.plain rfl (by exact AStepD.indexAddr_sl' (i := k) (off' := k * 1) tok rfl rfl rfl rfl rfl rfl (show _ = 1 from rfl) rfl hk1 (Nat.zero_add _))
    · refine Ob.mk _ [72, 67] 1 rfl rfl (restr_cons qV21 (restr_cons qV21 restr_nil)) rfl ?_
      simp only [List.getD_cons_zero, List.getD_cons_succ]
      exact GStep.plain rfl (by exact AStepD.store' (k := 1) (cs := flat L) (ys := [strA (fL (y.ln s.g))]) (zs := flat (L.set k (fL (y.ln s.g)))) tok rfl rfl hg rfl rfl qV210 rfl rfl rfl (by omega) (over_str L k hk1 _))
    · refine Ob.mk _ [60, 62] 1 rfl rfl (restr_cons qV21 (restr_cons qV21 restr_nil)) rfl ?_
      simp only [List.getD_cons_zero, List.getD_cons_succ]
      exact GStep.plain rfl (by exact AStepD.indexAddr_sl' (i := k + 1) (off' := (k + 1) * 1) tok rfl rfl rfl rfl rfl rfl (show _ = 1 from rfl) rfl hk2 (Nat.zero_add _))
    · refine Ob.mk _ [73, 71] 2 rfl rfl (restr_cons qV21 (restr_cons qV21 restr_nil)) rfl ?_
      simp only [List.getD_cons_zero, List.getD_cons_succ]
      exact GStep.plain rfl (by exact AStepD.store' (k := 1) (cs := flat (L.set k (fL (y.ln s.g)))) (ys := [strA (fL (x.ln s.g))]) (zs := flat ((L.set k (fL (y.ln s.g))).set (k + 1) (fL (x.ln s.g)))) tok rfl rfl qV217 rfl rfl qV210 rfl rfl rfl (by omega) (over_str _ (k + 1) (by rw [List.length_set]; exact hk2) _))
    · refine Ob.mk _ [7] 1 rfl rfl (restr_cons qV21 restr_nil) rfl ?_
      simp only [List.getD_cons_zero, List.getD_cons_succ]
      exact GStep.plain rfl qV218
    · refine Ob.mk _ [10] 1 rfl rfl (restr_cons qV21 restr_nil) rfl ?_
      simp only [List.getD_cons_zero, List.getD_cons_succ]
      exact GStep.plain rfl qV218
    · refine Ob.mk _ [61] 1 rfl rfl (restr_cons qV21 restr_nil) rfl ?_
      simp only [List.getD_cons_zero, List.getD_cons_succ]
      exact GStep.plain rfl (by exact AStepD.add (r := ((k + 1 : Nat) : Int)) rfl rfl rfl (IntWalk.i64_in _ (by omega)))
  refine hK _ _ ?_; clear hK K
  refine AW.frame (by simp only [frameAt, putA]; all_goals exact rfl) (by simp only [List.length_cons, List.length_nil, Nat.zero_add, Nat.reduceAdd, List.getD_cons_zero, List.getD_cons_succ]; all_goals apply Eq.refl) ?_
  rw [← hL2]
  refine AW.seq_region (fun K hK => ?_)
  refine AL.step rfl rfl rfl qV216 ?_
  refine AL.nil_then (hK _ _ ?_); clear hK K
  refine AW.vecL (s := 7) (b := 0) (t := 9) (l := L2) (y := .sl D 0 L.length 1) (Lst.mk (Nat.zero_le _) (by simp only [za]; exact hDn) (AHeap.get_set_same _ _ _) rfl hL2l.symm rfl) rfl ?_
  refine AW.seq_k (fun K7 hK7 => ?_)
  refine AW.seq_region (fun K hK => ?_)
  refine AL.step rfl rfl rfl qV218 ?_
  refine AL.step rfl rfl rfl qV221 ?_
  refine AL.step rfl rfl rfl qV218 ?_
  refine AL.nil_then (hK _ _ ?_); clear hK K
  refine AW.block ?_
  refine AW.loop_at (ι := Nat) (fun j => [(76, .v (.int .i64 (j : Nat))), (75, .v (.int .i64 (L2.length : Nat))), (74, vecA L2), (11, strA ((L2.take j).flatten))])
    (fun j _ => j ≤ L2.length) (fun j => L2.length - j) 0 qV220 (Nat.zero_le _) ?_
  intro j H3 hj
  refine AW.seq_region (fun K hK => ?_)
  refine AL.step rfl rfl rfl qV25 ?_
  refine AL.nil_then (hK _ _ ?_); clear hK K
  refine AW.seq_k (fun K8 hK8 => ?_)
  refine AW.cond _ rfl (fun hc => ?_) (fun hc => ?_)
  · (try simp only [Bool.or_eq_true, Bool.and_eq_true, Bool.or_eq_false_iff, Bool.and_eq_false_iff, Bool.not_eq_true', Bool.not_eq_false', decide_eq_true_eq, decide_eq_false_iff_not, Int.not_lt, Int.not_le] at hc)
    have hjl : j < L2.length := by omega
    have hlj : ((L2.take j).flatten ++ L2[j]).length ≤ t.length := by
      rw [← hlen2]
      have e : L2.flatten = (L2.take j).flatten ++ (L2[j] ++ (L2.drop (j + 1)).flatten) := by
        conv => lhs; rw [← List.take_append_drop j L2, List.flatten_append, List.drop_eq_getElem_cons hjl, List.flatten_cons]
      have := congrArg List.length e
      rw [List.length_append, List.length_append] at this
      rw [List.length_append]; omega
    rw [List.length_append] at hlj
    refine AW.skip ?_
    refine hK8 _ _ ?_; try clear hK8 K8
    refine AW.seq_k (fun K9 hK9 => ?_)
    refine AW.block ?_
    refine AW.seq_region (fun K hK => ?_)
    refine AL.step rfl rfl rfl qV222 ?_
    refine AL.step rfl rfl rfl (by first | exact AStepD.load_one tok rfl rfl rfl rfl qV217 rfl qV214 | exact AStepD.load_one_ip tok rfl rfl rfl rfl rfl qV214) ?_
    refine AL.step rfl rfl rfl qV216 ?_
    refine AL.nil_then (hK _ _ ?_); clear hK K
    refine AW.region ?_
    refine AL.step rfl rfl rfl qV218 ?_
    refine AL.step rfl rfl rfl qV218 ?_
    refine AL.step rfl rfl rfl (by exact AStepD.val (strA_add (L2.take j).flatten L2[j] rfl rfl rfl (by omega)) (y := strA ((L2.take (j + 1)).flatten)) (by rw [take_next L2 j hjl, List.flatten_append, List.flatten_singleton])) ?_
    refine AL.step rfl rfl rfl qV216 ?_
    refine AL.nil ?_
    refine hK9 _ _ ?_; try clear hK9 K9
    refine AW.region ?_
    refine AL.step rfl rfl rfl (by first | exact AStepD.add rfl rfl rfl (by first | exact IntWalk.i64_in _ (by omega) | exact IntWalk.i64_in _ (by simp only [Bool.or_eq_true, Bool.and_eq_true, Bool.or_eq_false_iff, Bool.and_eq_false_iff, Bool.not_eq_true', Bool.not_eq_false', decide_eq_true_eq, decide_eq_false_iff_not, Int.not_lt, Int.not_le, beq_iff_eq] at *; omega) | exact rfl) | exact AStepD.str_add rfl rfl rfl (by omega)) ?_
    refine AL.step rfl rfl rfl qV218 ?_
    refine AL.nil ?_
    exact ⟨j + 1, by omega, qV220, hjl⟩
  (try simp only [Bool.or_eq_true, Bool.and_eq_true, Bool.or_eq_false_iff, Bool.and_eq_false_iff, Bool.not_eq_true', Bool.not_eq_false', decide_eq_true_eq, decide_eq_false_iff_not, Int.not_lt, Int.not_le] at hc)
  obtain rfl : j = L2.length := by omega
  rw [List.take_length]
  refine AW.exit ?_
  refine hK7 _ _ ?_; try clear hK7 K7 hK8 K8
  refine AW.seq_region (fun K hK => ?_)
  refine AL.step rfl rfl rfl qV218 ?_
  refine AL.step rfl rfl rfl (by exact AStepD.val (AStepD.callf rfl en14 rfl (parseS_calls _ L2.flatten (by omega))) (y := .tup [stA zS, .v (.int .i64 60)]) (by rw [hno]; rfl)) ?_
  refine AL.step rfl rfl rfl qV218 ?_
  refine AL.step rfl rfl rfl qV23 ?_
  refine AL.step rfl rfl rfl qV23 ?_
  refine AL.step rfl rfl rfl (by exact AStepD.alloc tok rfl rfl) ?_
  refine AL.step0 rfl rfl (by exact AStepD.store' (k := 134) (cs := zS.cs (.v (.slice none 0 0))) (ys := zS.cs (vecA zS.known)) (zs := zS.cs (vecA zS.known)) tok rfl rfl (by rw [← zS_zero]; exact AHeap.get_new_same _ _) rfl rfl (Stt.cs_one _ rfl) rfl (zS_ok.fc _) rfl (by rw [zS_ok.fc]; omega) (over_all (by rw [zS_ok.fc, zS_ok.fc]; rfl))) ?_
  refine AL.step rfl rfl rfl qV216 ?_
  refine AL.nil_then (hK _ _ ?_); clear hK K
  refine AW.seq_region (fun K hK => ?_)
  refine AL.step rfl rfl rfl qV218 ?_
  refine AL.step rfl rfl rfl qV215 ?_
  refine AL.step rfl rfl rfl qV216 ?_
  refine AL.nil_then (hK _ _ ?_); clear hK K
  exact AW.ret (RetQ.mk (.inr rfl) (retA_tmp rfl qV21 retA_nil) rfl)
end Go.Proofs.YtbcanlmpfhkklaaGreatDoor
