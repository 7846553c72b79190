/- Texts whose lines are swapped, plainly. -/
import Derived.Test.YtbcanlmpfhkklaaGreatDoorCU
set_option linter.unusedSimpArgs false
set_option linter.unusedVariables false
namespace Go.Proofs.YtbcanlmpfhkklaaGreatDoor
open Go.Ax
open Cel (c)
set_option linter.unusedSimpArgs false
set_option linter.unusedVariables false

/-- What a line behind the first tells. -/
inductive It where
  | kn (a : Kn)
  | pr (a : Int × Int)
def It.ln (g : Nat → Int × Int) : It → List Prt
  | .kn k => lineK k
  | .pr p => lineP g p
def items (s : Stt) : List It := s.known.map .kn ++ (pairsG s.g).map .pr
theorem rest_items (s : Stt) : restL s = (items s).map (It.ln s.g) := by
  rw [restL, items, List.map_append, List.map_map, List.map_map]; rfl
def It.ok (s : Stt) : It → Prop
  | .kn k => k ∈ s.known
  | .pr p => p ∈ pairsG s.g
def putI' (g : Nat → Int × Int) (t : Stt) : It → Stt
  | .kn k => addK t k
  | .pr p => putP g t p
theorem read_items {s : Stt} (r : Rt s) : ∀ (L : List It) (t : Stt), (∀ x ∈ L, x.ok s) → readL false t (L.map fun x => jL (x.ln s.g)) = some (L.foldl (putI' s.g) t)
  | [], t, _ => rfl
  | .kn k :: L, t, h => by
    rw [List.map_cons, readL, show jL ((It.kn k).ln s.g) = jL (lineK k) from rfl, stepK r (h _ (List.mem_cons_self ..))]
    exact read_items r L _ fun q hq => h q (List.mem_cons_of_mem _ hq)
  | .pr p :: L, t, h => by
    obtain ⟨i, hi, e⟩ := (mem_pairsG.1 (h (.pr p) (List.mem_cons_self ..))).2
    obtain ⟨h1, h2, h3⟩ := r.slot i hi
    have e1 : s.ow i = p.1 := congrArg Prod.fst e
    have e2 : s.ep i = p.2 := congrArg Prod.snd e
    rw [List.map_cons, readL, show jL ((It.pr p).ln s.g) = jL (lineP s.g p) from rfl, lineP, stepQ _ ⟨by omega, by omega⟩ ⟨by omega, by omega⟩]
    exact read_items r L _ fun q hq => h q (List.mem_cons_of_mem _ hq)
def kns : List It → List Kn
  | [] => []
  | .kn k :: L => k :: kns L
  | .pr _ :: L => kns L
def prs : List It → List (Int × Int)
  | [] => []
  | .kn _ :: L => prs L
  | .pr p :: L => p :: prs L
theorem fold_items (g : Nat → Int × Int) : ∀ (L : List It) (t : Stt), L.foldl (putI' g) t = (prs L).foldl (putP g) { t with known := t.known ++ kns L }
  | [], t => by rw [kns, List.append_nil]; rfl
  | .kn k :: L, t => by
    rw [List.foldl_cons, show putI' g t (.kn k) = addK t k from rfl, fold_items g L, kns, prs]
    simp only [addK, List.append_assoc, List.singleton_append]
  | .pr p :: L, t => by
    rw [List.foldl_cons, show putI' g t (.pr p) = putP g t p from rfl, fold_items g L, kns, prs, List.foldl_cons]
    rfl
theorem kns_app : ∀ (a b : List It), kns (a ++ b) = kns a ++ kns b
  | [], b => rfl
  | .kn k :: a, b => by rw [List.cons_append, kns, kns, kns_app a b]; rfl
  | .pr p :: a, b => by rw [List.cons_append, kns, kns, kns_app a b]
theorem prs_app : ∀ (a b : List It), prs (a ++ b) = prs a ++ prs b
  | [], b => rfl
  | .kn k :: a, b => by rw [List.cons_append, prs, prs, prs_app a b]
  | .pr p :: a, b => by rw [List.cons_append, prs, prs, prs_app a b]; rfl
theorem kns_items (s : Stt) : kns (items s) = s.known ∧ prs (items s) = pairsG s.g := by
  have h1 : ∀ l : List Kn, kns (l.map .kn) = l ∧ prs (l.map .kn) = [] := by
    intro l; induction l with
    | nil => exact ⟨rfl, rfl⟩
    | cons a r ih => exact ⟨by rw [List.map_cons, kns, ih.1], by rw [List.map_cons, prs, ih.2]⟩
  have h2 : ∀ l : List (Int × Int), kns (l.map .pr) = [] ∧ prs (l.map .pr) = l := by
    intro l; induction l with
    | nil => exact ⟨rfl, rfl⟩
    | cons a r ih => exact ⟨by rw [List.map_cons, kns, ih.1], by rw [List.map_cons, prs, ih.2]⟩
  rw [items, kns_app, prs_app, (h1 _).1, (h1 _).2, (h2 _).1, (h2 _).2]
  simp
theorem items_ok (s : Stt) : ∀ x ∈ items s, x.ok s := by
  intro x hx
  rcases List.mem_append.1 hx with hx | hx
  · obtain ⟨k, hk, rfl⟩ := List.mem_map.1 hx; exact hk
  · obtain ⟨p, hp, rfl⟩ := List.mem_map.1 hx; exact hp
/-- Two neighbours of a list, swapped. -/
theorem swap_lines {s : Stt} (ok : s.Ok) (hr : rightB s = true) {a b : List It} {x y : It} (he : items s = a ++ x :: y :: b) : parseP (docL (lineH s :: (a ++ y :: x :: b).map (It.ln s.g))) = none := by
  have r := right_rt hr
  have hok := items_ok s
  rw [he] at hok
  have hok2 : ∀ z ∈ a ++ y :: x :: b, z.ok s := fun z hz => hok z (by
    rw [List.mem_append, List.mem_cons, List.mem_cons] at hz ⊢
    rcases hz with h | h | h | h
    · exact .inl h
    · exact .inr (.inr (.inl h))
    · exact .inr (.inl h)
    · exact .inr (.inr (.inr h)))
  have hlf : ∀ ps ∈ lineH s :: (a ++ y :: x :: b).map (It.ln s.g), NoLF ps := fun ps hps => by
    rcases List.mem_cons.1 hps with rfl | hps
    · exact lineH_lf r
    · obtain ⟨z, hz, rfl⟩ := List.mem_map.1 hps
      have := hok2 z hz
      cases z with
      | kn k => exact lineK_lf r this
      | pr p => exact lineP_lf r (mem_pairsG.1 this).2
  have hraw : rawP (docL (lineH s :: (a ++ y :: x :: b).map (It.ln s.g))) = some ((prs (a ++ y :: x :: b)).foldl (putP s.g) { hdS zS [s.id, s.master, s.cur, s.vote, s.cfg] with known := kns (a ++ y :: x :: b) }) := by
    rw [rawP, lines_doc (by simp) hlf, List.map_cons, readL, stepH r]
    show readL false (hdS zS _) _ = _
    rw [List.map_map, show (jL ∘ It.ln s.g) = fun x => jL (x.ln s.g) from rfl, read_items r _ _ hok2, fold_items]
    rfl
  have hk : kns (a ++ x :: y :: b) = s.known := by rw [← he]; exact (kns_items s).1
  have hp : prs (a ++ x :: y :: b) = pairsG s.g := by rw [← he]; exact (kns_items s).2
  have hdoc : docT s = docL (lineH s :: (a ++ x :: y :: b).map (It.ln s.g)) := by rw [docT, allL_eq, ← he, ← rest_items]; rfl
  -- the members of the pairs are the same
  have hpm : ∀ p, p ∈ prs (a ++ y :: x :: b) ↔ p ∈ pairsG s.g := fun p => by
    rw [← hp, prs_app, prs_app, List.mem_append, List.mem_append]
    cases x <;> cases y <;> simp only [prs, List.mem_cons]
    constructor
    · rintro (h | h | h | h)
      · exact .inl h
      · exact .inr (.inr (.inl h))
      · exact .inr (.inl h)
      · exact .inr (.inr (.inr h))
    · rintro (h | h | h | h)
      · exact .inl h
      · exact .inr (.inr (.inl h))
      · exact .inr (.inl h)
      · exact .inr (.inr (.inr h))
  cases hq : parseP (docL (lineH s :: (a ++ y :: x :: b).map (It.ln s.g))) with
  | none => rfl
  | some q =>
    obtain ⟨h1, h2⟩ := parse_some hq
    rw [parseP, hraw] at hq
    have hq : (if _ ∧ _ then some _ else none) = some q := hq
    split at hq
    · rename_i hcond
      have hqe := Option.some.inj hq
      by_cases hxy : ∃ k1 k2, x = .kn k1 ∧ y = .kn k2
      · -- two nodes: they don't rise
        obtain ⟨k1, k2, rfl, rfl⟩ := hxy
        have hkn : q.known = kns (a ++ .kn k2 :: .kn k1 :: b) := by
          rw [← hqe]
          exact (putP_facts s.g _ ({ hdS zS [s.id, s.master, s.cur, s.vote, s.cfg] with known := kns (a ++ .kn k2 :: .kn k1 :: b) } : Stt) ⟨zS_ok.o, zS_ok.e⟩).2.2.2.2.2.2.2
        have hrise := (right_rt h1).rise
        have hrise2 := r.rise
        rw [hkn, kns_app, kns, kns, List.pairwise_append] at hrise
        rw [← hk, kns_app, kns, kns, List.pairwise_append] at hrise2
        have q1 := (List.pairwise_cons.1 hrise.2.1).1 k1 (List.mem_cons_self ..)
        have q2 := (List.pairwise_cons.1 hrise2.2.1).1 k2 (List.mem_cons_self ..)
        omega
      · -- else the state is the same, but its text is not
        have hkn : kns (a ++ y :: x :: b) = s.known := by
          rw [← hk, kns_app, kns_app]
          congr 1
          cases x with
          | kn k1 => cases y with
            | kn k2 => exact absurd ⟨k1, k2, rfl, rfl⟩ hxy
            | pr p2 => rfl
          | pr p1 => cases y <;> rfl
        have hqs : q = s := by
          rw [← hqe, hkn]
          exact fold_state ok r hpm
        rw [hqs, hdoc] at h2
        have h3 : splitB 10 (Lib.trimSuffix (docL (lineH s :: (a ++ x :: y :: b).map (It.ln s.g))) [10]) = splitB 10 (Lib.trimSuffix (docL (lineH s :: (a ++ y :: x :: b).map (It.ln s.g))) [10]) := by rw [h2]
        have hall := all_lf r
        rw [lines_doc (by simp) hlf, lines_doc (by simp) (fun ps hps => hall ps (by rw [allL_eq]; rw [← he, ← rest_items] at hps; exact hps))] at h3
        simp only [List.map_cons, List.map_append, List.cons.injEq, true_and] at h3
        have h4 := List.append_cancel_left h3
        have h5 := (List.cons.inj h4).1
        -- one line read tells the item
        have hx := hok x (by simp)
        have hy := hok y (by simp)
        have hne : x ≠ y := by
          intro e
          subst e
          cases x with
          | kn k1 => exact hxy ⟨k1, k1, rfl, rfl⟩
          | pr p1 =>
            have := pairsG_nodup s.g
            rw [← hp, prs_app, prs, prs, List.nodup_append] at this
            exact (List.nodup_cons.1 this.2.1).1 (List.mem_cons_self ..)
        cases x with
        | kn k1 =>
          cases y with
          | kn k2 => exact absurd ⟨k1, k2, rfl, rfl⟩ hxy
          | pr p2 =>
            have e1 : ∃ r', jL (lineK k1) = 110 :: r' := ⟨_, rfl⟩
            have e2 : ∃ r', jL (lineP s.g p2) = 115 :: r' := ⟨_, rfl⟩
            obtain ⟨r1, e1⟩ := e1; obtain ⟨r2, e2⟩ := e2
            have h6 : jL (lineK k1) = jL (lineP s.g p2) := h5
            rw [e1, e2] at h6
            exact absurd (List.cons.inj h6).1 (by decide)
        | pr p1 =>
          cases y with
          | kn k2 =>
            have e1 : ∃ r', jL (lineK k2) = 110 :: r' := ⟨_, rfl⟩
            have e2 : ∃ r', jL (lineP s.g p1) = 115 :: r' := ⟨_, rfl⟩
            obtain ⟨r1, e1⟩ := e1; obtain ⟨r2, e2⟩ := e2
            have h6 : jL (lineP s.g p1) = jL (lineK k2) := h5
            rw [e1, e2] at h6
            exact absurd (List.cons.inj h6).1 (by decide)
          | pr p2 =>
            have h6 : jL (lineP s.g p1) = jL (lineP s.g p2) := h5
            have ih : ∀ p, p ∈ pairsG s.g → stepP false zS (jL (lineP s.g p)) = some (putP s.g zS p) := fun p hpp => by
              have := read_items r [.pr p] zS (fun z hz => by rw [List.mem_singleton.1 hz]; exact hpp)
              simp only [List.map_cons, List.map_nil, readL, List.foldl_cons, List.foldl_nil] at this
              cases hs : stepP false zS (jL ((It.pr p).ln s.g)) with
              | none => rw [hs] at this; cases this
              | some t => rw [hs] at this; exact hs.trans this
            have h7 := ih p1 hx
            rw [h6, ih p2 hy] at h7
            have h8 := Option.some.inj h7
            obtain ⟨_, i, hi, hgi⟩ := mem_pairsG.1 hx
            obtain ⟨hp20, _⟩ := mem_pairsG.1 hy
            have a1 := (putP_facts s.g [p1] zS zS_ok).2.1 i hi
            have a2 := (putP_facts s.g [p2] zS zS_ok).2.1 i hi
            simp only [List.foldl_cons, List.foldl_nil] at a1 a2
            rw [← h8, a2, putS, putS, hgi, if_pos rfl] at a1
            by_cases e : p1 = p2
            · exact absurd (by rw [e]) hne
            · rw [if_neg e, zero_g] at a1
              exact absurd (congrArg Prod.fst a1.symm) (mem_pairsG.1 hx).1
    · cases hq
end Go.Proofs.YtbcanlmpfhkklaaGreatDoor

/- A text's lines, plainly: how many, how they end, how long. -/

namespace Go.Proofs.YtbcanlmpfhkklaaGreatDoor
open Go.Ax
open Cel (c)

/-- It ends with a sign that is neither blank nor line feed. -/
def EndOk (l : List UInt8) : Prop := ∃ x c, l = x ++ [c] ∧ c ≠ 10 ∧ c ≠ 32
theorem EndOk.app {b : List UInt8} (a : List UInt8) (h : EndOk b) : EndOk (a ++ b) := by
  obtain ⟨x, c, rfl, h⟩ := h
  exact ⟨a ++ x, c, (List.append_assoc ..).symm, h⟩
theorem dec_end (n : Nat) : EndOk (Lib.decDigits n) := by
  have hne : Lib.decDigits n ≠ [] := by
    rw [Lib.decDigits]; split <;> simp
  obtain ⟨h1, h2⟩ := dec_clean n
  refine ⟨(Lib.decDigits n).dropLast, (Lib.decDigits n).getLast hne, (List.dropLast_concat_getLast hne).symm, fun e => h2 ?_, fun e => h1 ?_⟩
  · rw [← e]; exact List.getLast_mem hne
  · rw [← e]; exact List.getLast_mem hne
theorem itoa_end {n : Int} (h : 0 ≤ n) : EndOk (Lib.itoa n) := by
  obtain ⟨m, rfl⟩ := Int.eq_ofNat_of_zero_le h
  rw [itoa_nat]; exact dec_end m
theorem join_end : ∀ (xs : List (List UInt8)) (y : List UInt8), EndOk y → EndOk (Lib.join (xs ++ [y]) [32])
  | [], y, h => by rw [List.nil_append, Lib.join_one]; exact h
  | [x], y, h => by
    show EndOk (Lib.join (x :: y :: []) [32])
    rw [join_cons, Lib.join_one]; exact (h.app _).app _
  | x :: z :: r, y, h => by
    show EndOk (Lib.join (x :: z :: (r ++ [y])) [32])
    rw [join_cons]; exact ((join_end (z :: r) y h).app _).app _
theorem seg_end (x : Nat × Nat) : EndOk (segT x) := by
  rw [segT]; split
  · exact EndOk.app _ (EndOk.app [45] (dec_end _))
  · exact dec_end _
theorem textS_end {b : BitVec 64} (h : textS b ≠ []) : EndOk (textS b) := by
  rw [textS] at h ⊢
  rcases List.eq_nil_or_concat (segsS b) with e | ⟨l, a, e⟩
  · rw [e] at h; exact absurd (by rw [List.map_nil, Lib.join_nil]) h
  · rw [e, List.concat_eq_append, List.map_append]; exact join_end _ _ (seg_end a)
theorem line_end {ps : List Prt} {p : Prt} (h : EndOk p.txt) : EndOk (jL (ps ++ [p])) := by
  rw [jL, List.map_append]; exact join_end _ _ h
theorem all_end {s : Stt} (r : Rt s) : ∀ ps ∈ allL s, EndOk (jL ps) := by
  intro ps hps
  rw [allL_eq, List.mem_cons, List.mem_append, List.mem_map, List.mem_map] at hps
  rcases hps with rfl | ⟨k, hk, rfl⟩ | ⟨p, hp, rfl⟩
  · exact line_end (ps := [.s wS, .n s.id, .s wM, .n s.master, .s wC, .n s.cur, .s wV, .n s.vote, .s wG]) (itoa_end r.cfg.1)
  · exact line_end (ps := [.s wN, .n k.id, .s wM, .n k.master, .s wG]) (itoa_end ((r.known k hk).2.2.1))
  · exact line_end (ps := [.s wL, .n p.1, .s wE, .n p.2, .s [58]]) (textS_end (textG_ne (mem_pairsG.1 hp).2))
/-- Ahead of a line feed stands neither a line feed nor a blank. -/
theorem docL_before : ∀ {ls : List (List Prt)}, (∀ ps ∈ ls, EndOk (jL ps)) → (∀ ps ∈ ls, (10 : UInt8) ∉ jL ps) → ∀ a b, docL ls = a ++ 10 :: b → EndOk a
  | [], _, _, a, b, h => absurd h (by rw [show docL [] = [] from rfl]; cases a <;> simp)
  | ps :: ls, h1, h2, a, b, h => by
    have e : docL (ps :: ls) = jL ps ++ 10 :: docL ls := by
      rw [show ps :: ls = [ps] ++ ls from rfl, docL_append, docL_one, List.append_assoc]; rfl
    rw [e] at h
    have h1' := h1 ps (List.mem_cons_self ..)
    rcases List.append_eq_append_iff.1 h with ⟨a', ha, hb⟩ | ⟨c', hc, hd⟩
    · cases a' with
      | nil => rw [ha, List.append_nil]; exact h1'
      | cons x a' =>
        rw [List.cons_append, List.cons.injEq] at hb
        obtain ⟨rfl, hb⟩ := hb
        rw [ha]
        exact EndOk.app _ (EndOk.app [10] (docL_before (fun q hq => h1 q (List.mem_cons_of_mem _ hq)) (fun q hq => h2 q (List.mem_cons_of_mem _ hq)) a' b hb))
    · cases c' with
      | nil => rw [List.append_nil] at hc; rw [← hc]; exact h1'
      | cons x c' =>
        rw [List.cons_append, List.cons.injEq] at hd
        obtain ⟨rfl, hd⟩ := hd
        exact absurd (hc ▸ List.mem_append_right a (List.mem_cons_self ..)) (h2 ps (List.mem_cons_self ..))
theorem docL_count : ∀ {ls : List (List Prt)}, (∀ ps ∈ ls, (10 : UInt8) ∉ jL ps) → (docL ls).count 10 = ls.length
  | [], _ => rfl
  | ps :: ls, h => by
    rw [show ps :: ls = [ps] ++ ls from rfl, docL_append, docL_one, List.count_append, List.count_append, List.count_eq_zero.2 (h ps (List.mem_cons_self ..)), docL_count fun q hq => h q (List.mem_cons_of_mem _ hq)]
    show 0 + 1 + ls.length = ls.length + 1
    omega
/-- What stands ahead of a line feed, by place. -/
theorem before_at {t : List UInt8} (h : ∀ a b, t = a ++ 10 :: b → EndOk a) {i : Nat} (hi : i < t.length) (h8 : at8 t i = 10) : 0 < i ∧ at8 t (i - 1) ≠ 10 ∧ at8 t (i - 1) ≠ 32 := by
  have h10 : t[i] = 10 := by
    rw [at8, List.getD_eq_getElem?_getD, List.getElem?_eq_getElem hi, Option.getD_some] at h8
    exact UInt8.toNat_inj.1 (h8.trans (by decide))
  obtain ⟨x, c, hx, hc1, hc2⟩ := h (t.take i) (t.drop (i + 1)) (by rw [← h10, ← List.drop_eq_getElem_cons, List.take_append_drop])
  have hl : i = x.length + 1 := by
    have := congrArg List.length hx
    rw [List.length_take, List.length_append, List.length_singleton] at this
    omega
  have hat : at8 t (i - 1) = c.toNat := by
    have e : t = (x ++ [c]) ++ t.drop i := by rw [← hx, List.take_append_drop]
    rw [at8, e, hl, Nat.add_sub_cancel, List.append_assoc, List.getD_eq_getElem?_getD, List.getElem?_append_right (Nat.le_refl _), Nat.sub_self]; rfl
  refine ⟨by omega, fun e => hc1 ?_, fun e => hc2 ?_⟩
  · exact UInt8.toNat_inj.1 ((hat.symm.trans e).trans (by decide))
  · exact UInt8.toNat_inj.1 ((hat.symm.trans e).trans (by decide))
theorem count_take {t : List UInt8} {i : Nat} (hi : i < t.length) : (t.take (i + 1)).count 10 = (t.take i).count 10 + if at8 t i = 10 then 1 else 0 := by
  rw [take_next t i hi, List.count_append, List.count_singleton, at8, List.getD_eq_getElem?_getD, List.getElem?_eq_getElem hi, Option.getD_some]
  congr 1
  by_cases h : t[i] = 10
  · rw [h]; rfl
  · rw [if_neg (by simpa using h), if_neg fun e => h (UInt8.toNat_inj.1 (e.trans (by decide)))]

/-! How long. -/
def sumL (l : List Nat) : Nat := l.foldr (· + ·) 0
theorem join_sum : ∀ (xs : List (List UInt8)), (Lib.join xs [32]).length ≤ sumL (xs.map fun x => x.length + 1)
  | [] => by simp [Lib.join_nil]
  | [x] => by rw [Lib.join_one]; simp [sumL]
  | x :: y :: r => by
    have ih := join_sum (y :: r)
    rw [join_cons, List.length_append, List.length_append, List.length_singleton]
    simp only [List.map_cons, sumL, List.foldr_cons] at ih ⊢
    omega
def cntB (f : Nat → Bool) : Nat → Nat
  | 0 => 0
  | n + 1 => cntB f n + if f (63 - n) then 1 else 0
def wid (l : List (Nat × Nat)) : Int := (l.map fun x => (x.2 : Int) - x.1 + 1).foldr (· + ·) 0
theorem segs_wid (f : Nat → Bool) : ∀ n, n ≤ 64 → wid (segs f n) = cntB f n
  | 0, _ => rfl
  | n + 1, h => by
    have ih := segs_wid f n (by omega)
    rw [segs, cntB]
    split
    · split
      · rename_i hs
        rw [hs] at ih
        split
        · simp only [wid, List.map_cons, List.foldr_cons] at ih ⊢; omega
        · simp only [wid, List.map_cons, List.foldr_cons] at ih ⊢; omega
      · rename_i hs
        rw [hs] at ih
        simp only [wid, List.map_nil, List.map_cons, List.foldr_cons, List.foldr_nil] at ih ⊢; omega
    · omega
theorem sum_wid : ∀ (l : List (Nat × Nat)), (∀ x ∈ l, x.1 ≤ x.2 ∧ x.2 < 64) → (sumL ((l.map segT).map fun x => x.length + 1) : Int) ≤ 3 * wid l
  | [], _ => by simp [sumL, wid]
  | x :: l, h => by
    have ih := sum_wid l fun y hy => h y (List.mem_cons_of_mem _ hy)
    have hx := h x (List.mem_cons_self ..)
    have h1 := dec_len x.1 (by omega)
    have h2 := dec_len x.2 (by omega)
    have h3 : ((segT x).length : Int) + 1 ≤ 3 * ((x.2 : Int) - x.1 + 1) := by
      rw [segT]
      split
      · rw [List.length_append, List.length_cons]; omega
      · omega
    simp only [List.map_cons, sumL, wid, List.foldr_cons] at ih ⊢
    omega
theorem textS_wid (b : BitVec 64) : (textS b).length ≤ 3 * cntB b.getLsbD 64 := by
  have h1 := join_sum ((segsS b).map segT)
  have h2 := sum_wid (segsS b) (good_bound (segsS_good b))
  have h3 := segs_wid b.getLsbD 64 (Nat.le_refl _)
  rw [← segsS] at h3
  rw [textS]
  omega
theorem sum_cnt (g : Nat → Int × Int) : ∀ (L : List (Int × Int)), L.Nodup → ∀ n, n ≤ 64 → sumL (L.map fun p => cntB (setG g p).getLsbD n) ≤ n := by
  intro L hL n
  induction n with
  | zero =>
    intro _
    clear hL
    induction L with
    | nil => exact Nat.le_refl _
    | cons p L ih =>
      simp only [List.map_cons, sumL, List.foldr_cons, cntB] at ih ⊢
      omega
  | succ n ihn =>
    intro hn
    have h1 := ihn (by omega)
    have h2 : ∀ (M : List (Int × Int)), M.Nodup → sumL (M.map fun p => cntB (setG g p).getLsbD (n + 1)) = sumL (M.map fun p => cntB (setG g p).getLsbD n) + if g (63 - n) ∈ M then 1 else 0 := by
      intro M hM
      induction M with
      | nil => rfl
      | cons p M ih =>
        have hp := List.nodup_cons.1 hM
        have ih := ih hp.2
        simp only [List.map_cons, sumL, List.foldr_cons] at ih ⊢
        rw [ih, cntB, setG_get, decide_eq_true (by omega : 63 - n < 64), Bool.true_and]
        by_cases hg : g (63 - n) = p
        · subst hg
          rw [decide_eq_true rfl, if_pos rfl, if_pos (List.mem_cons_self ..), if_neg hp.1]; omega
        · rw [decide_eq_false hg, if_neg (by decide)]
          by_cases hm : g (63 - n) ∈ M
          · rw [if_pos hm, if_pos (List.mem_cons_of_mem _ hm)]; omega
          · rw [if_neg hm, if_neg fun e => (List.mem_cons.1 e).elim hg hm]
            omega
    rw [h2 L hL]
    split <;> omega
theorem dec_few {n k : Nat} (h : n < 10 ^ (k + 1)) : (Lib.decDigits n).length ≤ k + 1 := by
  have := nDig_le k n h
  rw [Lib.decDigits_length]; exact this
theorem itoa_few {n : Int} {k : Nat} (h0 : 0 ≤ n) (h : n < ((10 ^ (k + 1) : Nat) : Int)) : (Lib.itoa n).length ≤ k + 1 := by
  obtain ⟨m, rfl⟩ := Int.eq_ofNat_of_zero_le h0
  rw [itoa_nat]; exact dec_few (by omega)
theorem id_few {n : Int} (h0 : 0 ≤ n) (h : n ≤ 4294967296) : (Lib.itoa n).length ≤ 10 := itoa_few (k := 9) h0 (by omega)
theorem ep_few {n : Int} (h0 : 0 ≤ n) (h : n ≤ 281474976710656) : (Lib.itoa n).length ≤ 15 := itoa_few (k := 14) h0 (by omega)
theorem lineH_short {s : Stt} (r : Rt s) : (jL (lineH s)).length ≤ 102 := by
  have h := join_sum ((lineH s).map Prt.txt)
  have h1 := id_few (by have := r.id; omega) r.id.2
  have h2 := id_few r.master.1 r.master.2
  have h3 := ep_few r.cur.1 r.cur.2
  have h4 := ep_few r.vote.1 (by have := r.vote.2; have := r.cur.2; omega)
  have h5 := ep_few r.cfg.1 (by have := r.cfg.2; have := r.cur.2; omega)
  simp only [lineH, List.map_cons, List.map_nil, Prt.txt, sumL, List.foldr_cons, List.foldr_nil, List.length_cons, List.length_nil] at h
  rw [jL]
  simp only [lineH, List.map_cons, List.map_nil, Prt.txt]
  omega
theorem lineK_short {s : Stt} (r : Rt s) {k : Kn} (hk : k ∈ s.known) : (jL (lineK k)).length ≤ 57 := by
  have h := join_sum ((lineK k).map Prt.txt)
  obtain ⟨a, b, d⟩ := r.known k hk
  have h1 := id_few (by omega) a.2
  have h2 := id_few b.1 b.2
  have h3 := ep_few d.1 d.2
  simp only [lineK, List.map_cons, List.map_nil, Prt.txt, sumL, List.foldr_cons, List.foldr_nil, List.length_cons, List.length_nil] at h
  rw [jL]
  simp only [lineK, List.map_cons, List.map_nil, Prt.txt]
  omega
theorem lineP_short {s : Stt} (r : Rt s) {p : Int × Int} (hp : p ∈ pairsG s.g) : (jL (lineP s.g p)).length ≤ 42 + 3 * cntB (setG s.g p).getLsbD 64 := by
  have h := join_sum ((lineP s.g p).map Prt.txt)
  obtain ⟨i, hi, hg⟩ := (mem_pairsG.1 hp).2
  obtain ⟨a, b, _⟩ := r.slot i hi
  have e1 : s.ow i = p.1 := congrArg Prod.fst hg
  have e2 : s.ep i = p.2 := congrArg Prod.snd hg
  rw [e1] at a
  rw [e2] at b
  have h1 := id_few a.1 a.2
  have h2 := ep_few b.1 b.2
  have h3 := textS_wid (setG s.g p)
  simp only [lineP, lineS, List.map_cons, List.map_nil, Prt.txt, sumL, List.foldr_cons, List.foldr_nil, List.length_cons, List.length_nil] at h
  rw [jL]
  simp only [lineP, lineS, List.map_cons, List.map_nil, Prt.txt]
  omega
theorem docL_cons (l : List Prt) (ls : List (List Prt)) : (docL (l :: ls)).length = (jL l).length + 1 + (docL ls).length := by
  rw [show l :: ls = [l] ++ ls from rfl, docL_append, docL_one, List.length_append, List.length_append, List.length_singleton]
theorem kn_short {s : Stt} (r : Rt s) : ∀ (l : List Kn), (∀ k ∈ l, k ∈ s.known) → (docL (l.map lineK)).length ≤ 58 * l.length
  | [], _ => Nat.le_refl _
  | k :: l, h => by
    have h1 := lineK_short r (h k (List.mem_cons_self ..))
    have h2 := kn_short r l fun q hq => h q (List.mem_cons_of_mem _ hq)
    rw [List.map_cons, docL_cons, List.length_cons]; omega
theorem pr_short {s : Stt} (r : Rt s) : ∀ (l : List (Int × Int)), (∀ p ∈ l, p ∈ pairsG s.g) → (docL (l.map (lineP s.g))).length ≤ 43 * l.length + 3 * sumL (l.map fun p => cntB (setG s.g p).getLsbD 64)
  | [], _ => Nat.le_refl _
  | p :: l, h => by
    have h1 := lineP_short r (h p (List.mem_cons_self ..))
    have h2 := pr_short r l fun q hq => h q (List.mem_cons_of_mem _ hq)
    rw [List.map_cons, docL_cons, List.length_cons]
    simp only [List.map_cons, sumL, List.foldr_cons] at h2 ⊢
    omega
theorem doc_short {s : Stt} (r : Rt s) : (docT s).length ≤ 4000 := by
  have h1 := lineH_short r
  have h2 := kn_short r s.known fun _ h => h
  have h3 := pr_short r (pairsG s.g) fun _ h => h
  have h4 := sum_cnt s.g (pairsG s.g) (pairsG_nodup s.g) 64 (Nat.le_refl _)
  have h5 := pairs_len s.g
  have h6 := r.len
  rw [docT, allL_eq, docL_cons, docL_append, List.length_append]; omega
theorem all_count {s : Stt} : (allL s).length = 1 + s.known.length + (pairsG s.g).length := by
  rw [allL_eq, List.length_cons, List.length_append, List.length_map, List.length_map]; omega
/-- The first of a pair, step by step. -/
def frst (g : Nat → Int × Int) (i k : Nat) : Bool := decide ((g i).1 ≠ 0) && (List.range k).all fun j => decide (g j ≠ g i)
theorem frst_end (g : Nat → Int × Int) (i : Nat) : frst g i i = firstG g i := rfl
theorem frst_zero (g : Nat → Int × Int) (i : Nat) : frst g i 0 = decide ((g i).1 ≠ 0) := by rw [frst, List.range_zero, List.all_nil, Bool.and_true]
theorem frst_next (g : Nat → Int × Int) (i k : Nat) : frst g i (k + 1) = (frst g i k && decide (g k ≠ g i)) := by
  rw [frst, frst, List.range_succ, List.all_append, List.all_cons, List.all_nil, Bool.and_true, Bool.and_assoc]
def wantN (g : Nat → Int × Int) (i : Nat) : Nat := ((List.range i).filter (firstG g)).length
theorem want_next (g : Nat → Int × Int) (i : Nat) : wantN g (i + 1) = wantN g i + if firstG g i = true then 1 else 0 := by
  rw [wantN, wantN, List.range_succ, List.filter_append, List.length_append]
  congr 1
  by_cases h : firstG g i = true
  · rw [List.filter_cons_of_pos h, if_pos h]; rfl
  · rw [List.filter_cons_of_neg h, if_neg h]; rfl
theorem want_le (g : Nat → Int × Int) (i : Nat) : wantN g i ≤ i := by
  have := List.length_filter_le (firstG g) (List.range i)
  rw [List.length_range] at this
  exact this
end Go.Proofs.YtbcanlmpfhkklaaGreatDoor

/- The law ConfLines. -/

namespace Go.Proofs.YtbcanlmpfhkklaaGreatDoor
open Go.Ax
open Cel (c)
theorem qV31 {p : Prop} (h : p := by (conv => lhs; whnf); all_goals exact rfl) : p := h
theorem qV32 {p : Prop} (h : p := by simp only [Nat.reduceAdd]; exact rfl) : p := h
theorem qV33 {p : Prop} (h : p := by first | omega | (simp only [za, zb, zc, zd]; omega)) : p := h
theorem qV34 {p : Prop} (h : p := by first | with_reducible assumption | exact rfl) : p := h
theorem qV35 {p : Prop} (h : p := by first | exact IsSl.vec | exact IsSl.sl | exact IsSl.slc | exact IsSl.nil | with_reducible assumption) : p := h
theorem qV36 {p : Prop} (h : p := by exact AStepD.extract rfl rfl rfl) : p := h
theorem qV37 {p : Prop} (h : p := by first | exact AStepD.neq rfl rfl rfl | exact AStepD.str_neq rfl rfl rfl | exact (AStepD.ptr_nil tok (.inl ⟨_, _, rfl⟩) rfl rfl rfl).2 rfl | exact (AStepD.nil_nil tok rfl rfl rfl rfl).2 rfl | exact (AStepD.bool_eq tok rfl rfl rfl rfl).2 rfl | exact (AStepD.ptr_same tok rfl rfl rfl rfl rfl).2 rfl | exact (AStepD.iface_nil tok rfl rfl rfl rfl).2 rfl | exact (AStepD.nilIface_nil tok rfl rfl rfl rfl).2 rfl) : p := h
theorem qV38 {p : Prop} (h : p := by first | exact AStepD.eql rfl rfl rfl | exact AStepD.str_eql rfl rfl rfl | exact (AStepD.ptr_nil tok (.inl ⟨_, _, rfl⟩) rfl rfl rfl).1 rfl | exact (AStepD.nil_nil tok rfl rfl rfl rfl).1 rfl | exact (AStepD.bool_eq tok rfl rfl rfl rfl).1 rfl | exact (AStepD.ptr_same tok rfl rfl rfl rfl rfl).1 rfl | exact (AStepD.iface_nil tok rfl rfl rfl rfl).1 rfl | exact (AStepD.nilIface_nil tok rfl rfl rfl rfl).1 rfl) : p := h
theorem qV39 {p : Prop} (h : p := by (conv => lhs; whnf); all_goals first | exact rfl | (simp; done) | (simp; omega)) : p := h
theorem qV310 {p : Prop} (h : p := by exact AStepD.lss rfl rfl rfl) : p := h
theorem qV311 {p : Prop} (h : p := by first | exact rfl | exact (Int.toNat_of_nonneg (by omega)).symm) : p := h
theorem qV312 {p : Prop} (h : p := by first | omega | (simp; done) | (simp; omega) | (simp only [over, List.length_append, List.length_take, List.length_drop, *]; omega) | (simp_all; done) | (simp_all; omega)) : p := h
theorem qV313 {p : Prop} (h : p := by first | (simp only [Nat.zero_add, Nat.zero_mul, Nat.sub_zero, Nat.add_zero]; exact rfl) | exact rfl) : p := h
theorem qV314 {p : Prop} (h : p := by intro h; first | (rw [h]; done) | (rw [h]; rfl) | (simp [h]; done) | (simp_all; done) | exact guard_true h) : p := h
theorem qV315 {p : Prop} (h : p := by exact AStepD.assign' rfl qV31) : p := h
theorem qV316 {p : Prop} (h : p := by first | exact Nat.zero_add 5 | exact (show _ + 5 = _ from qV32) | exact (show _ + 5 = _ + 5 from rfl) | exact rfl) : p := h
theorem qV317 {p : Prop} (h : p := by first | with_reducible assumption | (simp (disch := (first | omega | (exact Lst.lab_ne (by with_reducible assumption) qV33) | (exact Lst.lab_new (by with_reducible assumption) qV33) | (refine id ?_; simp only [za, zb, zc, zd]; done) | (simp only [za, zb, zc, zd]; omega))) only [z1, z2, z3, z4, z5, z6, z7, z8, z9, ne_eq, *]; done) | (simp (disch := (first | omega | (exact Lst.lab_ne (by with_reducible assumption) qV33) | (exact Lst.lab_new (by with_reducible assumption) qV33) | (refine id ?_; simp only [za, zb, zc, zd]; done) | (simp only [za, zb, zc, zd]; omega))) only [z1, z2, z3, z4, z5, z6, z7, z8, z9, ne_eq, *]; exact rfl)) : p := h
theorem qV318 {p : Prop} (h : p := by first | exact AStepD.len_str tok rfl rfl rfl rfl | exact AStepD.len_sl tok rfl qV31 qV35 rfl rfl | exact AStepD.len_arr tok rfl rfl rfl) : p := h
theorem qV319 {p : Prop} (h : p := by exact AStepD.move' rfl qV31) : p := h
theorem qV320 {p : Prop} (h : p := by first | exact Nat.zero_add 6 | exact (show _ + 6 = _ from qV32) | exact (show _ + 6 = _ + 6 from rfl) | exact rfl) : p := h
theorem qV321 {p : Prop} (h : p := by first | exact Nat.zero_add 0 | exact (show _ + 0 = _ from qV32) | exact (show _ + 0 = _ + 0 from rfl) | exact rfl) : p := h
theorem qV322 {p : Prop} (h : p := by repeat' (first | exact SubT.nil _ | refine SubT.cons_eq qV39 ?_)) : p := h
theorem qV323 {p : Prop} (h : p := by first | exact AStepD.indexAddr_flat tok rfl rfl rfl rfl rfl rfl rfl (show _ = 1 from rfl) rfl qV311 qV312 | exact AStepD.indexAddr_vec' tok rfl rfl rfl rfl rfl rfl (show _ = 1 from rfl) qV311 qV312 | exact AStepD.indexAddr_sl' tok rfl rfl rfl rfl rfl rfl (show _ = 1 from rfl) qV311 qV312 qV313 | exact AStepD.indexAddr_arr' tok rfl rfl rfl rfl rfl rfl (show _ = 1 from rfl) qV311 qV312 qV313) : p := h
theorem qV324 {p : Prop} (h : p := by first | exact Nat.zero_add 64 | exact (show _ + 64 = _ from qV32) | exact (show _ + 64 = _ + 64 from rfl) | exact rfl) : p := h
theorem qV325 {p : Prop} (h : p := by first | exact AStepD.pick_true' rfl rfl qV31 | exact AStepD.pick_false' rfl rfl qV31 | exact AStepD.and rfl _ _ _ rfl rfl qV314 rfl | exact AStepD.and' rfl _ _ rfl rfl rfl | exact AStepD.or rfl _ _ _ rfl rfl rfl qV314 | exact AStepD.or' rfl _ _ rfl rfl rfl) : p := h
theorem qV326 {p : Prop} (h : p := by first | exact AStepD.fieldAddr' tok rfl rfl rfl rfl rfl rfl rfl qV316 | exact AStepD.fieldAddr_ip' tok rfl rfl rfl rfl rfl rfl rfl (show List.drop 5 _ = _ from rfl)) : p := h
theorem qV327 {p : Prop} (h : p := by first | exact AStepD.load_one tok rfl rfl rfl rfl qV317 rfl qV34 | exact AStepD.load_one_ip tok rfl rfl rfl rfl rfl qV34) : p := h
theorem qV328 {p : Prop} (h : p := by first | exact AStepD.fieldAddr' tok rfl rfl rfl rfl rfl rfl rfl qV320 | exact AStepD.fieldAddr_ip' tok rfl rfl rfl rfl rfl rfl rfl (show List.drop 6 _ = _ from rfl)) : p := h
theorem qV329 {p : Prop} (h : p := by first | exact AStepD.fieldAddr' tok rfl rfl rfl rfl rfl rfl rfl qV321 | exact AStepD.fieldAddr_ip' tok rfl rfl rfl rfl rfl rfl rfl List.drop_zero) : p := h
theorem qV330 {p : Prop} (h : p := by exact (fun hb => by (try (apply AStepD.uncond 9 rfl (gpf hb))); exact qV319)) : p := h
theorem qV331 {p : Prop} (h : p := by exact (fun _ hb => by (try (apply AStepD.uncond 9 rfl (gpf hb))); exact qV319)) : p := h
theorem qV332 {p : Prop} (h : p := by first | exact AStepD.fieldAddr' tok rfl rfl rfl rfl rfl rfl rfl qV324 | exact AStepD.fieldAddr_ip' tok rfl rfl rfl rfl rfl rfl rfl (show List.drop 64 _ = _ from rfl)) : p := h
theorem qV333 {p : Prop} (h : p := by exact (fun hb => by (try (apply AStepD.uncond 3 rfl (gpf hb))); exact qV319)) : p := h
theorem qV334 {p : Prop} (h : p := by exact (fun _ hb => by (try (apply AStepD.uncond 3 rfl (gpf hb))); exact qV319)) : p := h
theorem qV335 {p : Prop} (h : p := by exact (fun hb => by (try (apply AStepD.uncond 11 rfl (gpf hb))); exact qV319)) : p := h
theorem qV336 {p : Prop} (h : p := by exact (fun _ hb => by (try (apply AStepD.uncond 11 rfl (gpf hb))); exact qV319)) : p := h
theorem qV337 {p : Prop} (h : p := by exact (fun hb => by (try (apply AStepD.uncond 1 rfl (gpf hb))); exact qV328)) : p := h
theorem qV338 {p : Prop} (h : p := by exact (fun _ hb => by (try (apply AStepD.uncond 1 rfl (gpf hb))); exact qV328)) : p := h
set_option linter.unusedSimpArgs false
set_option linter.unusedVariables false
open Cel (c)

theorem frst_step (s : Stt) (i k : Nat) : frst s.g i (k + 1) = (frst s.g i k && (decide (s.ow k ≠ s.ow i) || decide (s.ep k ≠ s.ep i))) := by
  rw [frst_next]
  congr 1
  rw [Bool.eq_iff_iff]
  simp only [Bool.or_eq_true, decide_eq_true_eq, Stt.g, ne_eq, Prod.mk.injEq]
  omega
set_option maxHeartbeats 4000000 in
theorem lines_law (H : AHeap) (s : Stt) (ok : s.Ok) : ACalls Tryz.prog 7 [stA s] H (fun r _ => r = .v (.bool true)) := by
  have hcs := ok.fc (vecA s.known)
  refine ACalls.of_body tok Tryz.func7 rfl Tryz.ntmps7 (Nat.le_of_ble_eq_true rfl) (fun base => ?_)
  refine AW.seq_region (fun K hK => ?_)
  refine AL.step rfl rfl rfl (by exact AStepD.box (cs := s.cs (vecA s.known)) rfl rfl (s.cs_one rfl)) ?_
  refine AL.step rfl rfl rfl qV315 ?_
  refine AL.nil_then (hK _ _ ?_); clear hK K
  refine AW.seq_k (fun K1 hK1 => ?_)
  refine AW.seq_region (fun K hK => ?_)
  refine AL.step rfl rfl rfl (by exact AStepD.callf rfl en9 rfl (anchor_calls _)) ?_
  refine AL.step rfl rfl rfl (by first | exact AStepD.not rfl rfl | exact AStepD.neg rfl rfl (by first | exact IntWalk.i64_in _ (by omega) | exact IntWalk.i64_in _ (by simp only [Bool.or_eq_true, Bool.and_eq_true, Bool.or_eq_false_iff, Bool.and_eq_false_iff, Bool.not_eq_true', Bool.not_eq_false', decide_eq_true_eq, decide_eq_false_iff_not, Int.not_lt, Int.not_le, beq_iff_eq] at *; omega) | exact rfl)) ?_
  refine AL.nil_then (hK _ _ ?_); clear hK K
  refine AW.cond_false rfl rfl (AW.skip ?_)
  refine hK1 _ _ ?_; try clear hK1 K1
  refine AW.seq_k (fun K2 hK2 => ?_)
  refine AW.seq_region (fun K hK => ?_)
  refine AL.step rfl rfl rfl qV326 ?_
  refine AL.step rfl rfl rfl qV327 ?_
  refine AL.step rfl rfl rfl qV318 ?_
  refine AL.step rfl rfl rfl (by exact AStepD.gtr rfl rfl rfl) ?_
  refine AL.nil_then (hK _ _ ?_); clear hK K
  refine AW.cond _ rfl (fun hc => ?_) (fun hc => ?_)
  · refine AW.seq_region (fun K hK => ?_)
    refine AL.step rfl rfl rfl qV315 ?_
    refine AL.nil_then (hK _ _ ?_); clear hK K
    exact AW.ret (RetQ.mk (.inr rfl) (retA_tmp rfl qV31 retA_nil) rfl)
  clear hc
  refine AW.skip ?_
  refine hK2 _ _ ?_; try clear hK2 K2
  refine AW.seq_region (fun K hK => ?_)
  refine AL.step rfl rfl rfl (by exact AStepD.load_agg (cs := s.cs (vecA s.known)) (zs := s.cs (vecA s.known)) tok rfl rfl rfl qV317 rfl (show _ = 134 from rfl) (by omega) (by rw [List.drop_zero]; exact List.take_of_length_le (by omega))) ?_
  refine AL.step rfl rfl rfl (by exact AStepD.callf rfl en11 rfl (statetext_calls _ s ok)) ?_
  refine AL.step rfl rfl rfl qV319 ?_
  refine AL.step rfl rfl rfl qV36 ?_
  refine AL.step rfl rfl rfl qV36 ?_
  refine AL.step rfl rfl rfl qV315 ?_
  refine AL.step rfl rfl rfl qV315 ?_
  refine AL.nil_then (hK _ _ ?_); clear hK K
  refine AW.seq_k (fun K3 hK3 => ?_)
  refine AW.seq_region (fun K hK => ?_)
  refine AL.step rfl rfl rfl qV319 ?_
  refine AL.step rfl rfl rfl qV37 ?_
  refine AL.nil_then (hK _ _ ?_); clear hK K
  cases hr : rightB s with
  | false =>
    rw [if_neg (by decide), if_neg (by decide)]
    refine AW.cond_true rfl rfl ?_
    refine AW.seq_region (fun K hK => ?_)
    refine AL.step rfl rfl rfl qV319 ?_
    refine AL.step rfl rfl rfl qV38 ?_
    refine AL.step rfl rfl rfl qV315 ?_
    refine AL.nil_then (hK _ _ ?_); clear hK K
    refine AW.ret (RetQ.mk (.inr rfl) (retA_tmp rfl qV31 retA_nil) rfl)
  | true =>
  rw [if_pos rfl, if_pos rfl]
  refine AW.cond_false rfl rfl (AW.skip ?_)
  have r := right_rt hr
  have hsh := doc_short r
  have hkl := r.len
  have hcount : (docT s).count 10 = 1 + s.known.length + (pairsG s.g).length := by
    rw [docT, docL_count (fun ps hps => jL_lf (all_lf r ps hps)), all_count]
  have hbef : ∀ a b, docT s = a ++ 10 :: b → EndOk a := docL_before (all_end r) (fun ps hps => jL_lf (all_lf r ps hps))
  obtain ⟨dx, hdx⟩ := doc_last s
  obtain ⟨t, ht⟩ : ∃ t, t = docT s := ⟨_, rfl⟩
  rw [← ht] at hsh hcount hbef hdx ⊢
  refine hK3 _ _ ?_; try clear hK3 K3
  refine AW.seq_region (fun K hK => ?_)
  refine AL.step rfl rfl rfl qV326 ?_
  refine AL.step rfl rfl rfl qV327 ?_
  refine AL.step rfl rfl rfl qV318 ?_
  refine AL.step rfl rfl rfl (by exact AStepD.add (r := ((1 + s.known.length : Nat) : Int)) rfl rfl rfl (IntWalk.i64_in _ (by omega))) ?_
  refine AL.step rfl rfl rfl qV315 ?_
  refine AL.nil_then (hK _ _ ?_); clear hK K
  refine AW.seq_k (fun K4 hK4 => ?_)
  refine AW.seq_region (fun K hK => ?_)
  refine AL.step rfl rfl rfl qV328 ?_
  refine AL.step rfl rfl rfl qV329 ?_
  refine AL.step rfl rfl rfl (by exact AStepD.load_agg (cs := s.cs (vecA s.known)) (zs := flat s.own) tok rfl rfl rfl qV317 rfl (show _ = 64 from rfl) (by omega) (by show ((s.cs (vecA s.known)).drop 6).take 64 = _; exact (by show (s.tab.drop 0).take 64 = _; exact ok.takeO))) ?_
  refine AL.step rfl rfl rfl qV319 ?_
  refine AL.nil_then (hK _ _ ?_); clear hK K
  have hf0 : ∀ i, i < 64 → (s.cs (vecA s.known))[6 + i * 1]? = some (.v (.int .i64 (s.ow i))) := fun i hi => by
    rw [show 6 + i * 1 = (i * 1) + 6 by omega]; exact ok.tO hi
  have hf1 : ∀ i, i < 64 → (s.cs (vecA s.known))[70 + i * 1]? = some (.v (.int .i64 (s.ep i))) := fun i hi => ok.cE hi
  obtain ⟨B, hB⟩ : ∃ B, B = H.next := ⟨_, rfl⟩
  rw [← hB]
  refine AW.block ?_
  refine AW.loop_at (ι := Nat) (fun i => [(34, .v (.int .i64 (i : Nat))), (33, .agg (flat s.own)), (5, .v (.int .i64 ((1 + s.known.length + wantN s.g i : Nat) : Int))), (3, strA t), (2, .v (.bool false)), (1, .ptr B 0)])
    (fun i H' => i ≤ 64 ∧ H'.get B = some (.cells 29 (s.cs (vecA s.known)))) (fun i => 64 - i) 0 qV322 ⟨by omega, by rw [hB]; exact qV317⟩ ?_
  rintro i H2 ⟨hi, g0⟩
  have hwl := want_le s.g i
  refine AW.seq_region (fun K hK => ?_)
  refine AL.step rfl rfl rfl qV310 ?_
  refine AL.nil_then (hK _ _ ?_); clear hK K
  refine AW.seq_k (fun K5 hK5 => ?_)
  refine AW.cond _ rfl (fun hc => ?_) (fun hc => ?_)
  · (try simp only [Bool.or_eq_true, Bool.and_eq_true, Bool.or_eq_false_iff, Bool.and_eq_false_iff, Bool.not_eq_true', Bool.not_eq_false', decide_eq_true_eq, decide_eq_false_iff_not, Int.not_lt, Int.not_le] at hc)
    have hil : i < 64 := by omega
    refine AW.skip ?_
    refine hK5 _ _ ?_; try clear hK5 K5
    refine AW.seq_k (fun K6 hK6 => ?_)
    refine AW.block ?_
    refine AW.seq_region (fun K hK => ?_)
    refine AL.step rfl rfl rfl qV319 ?_
    refine AL.step rfl rfl rfl (by exact AStepD.index_ints tok rfl rfl rfl rfl rfl rfl rfl (show _ = 1 from rfl) ok.o.symm rfl (by rw [ok.o]; exact hil)) ?_
    refine AL.step rfl rfl rfl qV315 ?_
    refine AL.step rfl rfl rfl qV315 ?_
    refine AL.nil_then (hK _ _ ?_); clear hK K
    have hgd : s.own.getD i 0 = s.ow i := rfl
    refine AW.seq_region (fun K hK => ?_)
    refine AL.step rfl rfl rfl qV319 ?_
    refine AL.step rfl rfl rfl (by exact AStepD.bool (AStepD.neq rfl rfl rfl) (c := frst s.g i 0) (by rw [frst_zero]; rfl)) ?_
    refine AL.step rfl rfl rfl qV315 ?_
    refine AL.nil_then (hK _ _ ?_); clear hK K
    refine AW.seq_k (fun K7 hK7 => ?_)
    refine AW.seq_region (fun K hK => ?_)
    refine AL.step rfl rfl rfl qV319 ?_
    refine AL.step rfl rfl rfl qV319 ?_
    refine AL.nil_then (hK _ _ ?_); clear hK K
    refine AW.block ?_
    refine AW.loop_at (ι := Nat) (fun k => [(41, .v (.int .i64 (k : Nat))), (40, .v (.int .i64 (i : Nat))), (34, .v (.int .i64 (i : Nat))), (33, .agg (flat s.own)), (8, .v (.bool (frst s.g i k))), (7, .v (.int .i64 (s.ow i))), (6, .v (.int .i64 (i : Nat))), (5, .v (.int .i64 ((1 + s.known.length + wantN s.g i : Nat) : Int))), (3, strA t), (2, .v (.bool false)), (1, .ptr B 0)])
      (fun k H' => k ≤ i ∧ H'.get B = some (.cells 29 (s.cs (vecA s.known)))) (fun k => i - k) 0 qV322 ⟨Nat.zero_le _, qV317⟩ ?_
    rintro k H3 ⟨hk, g1⟩
    refine AW.seq_region (fun K hK => ?_)
    refine AL.step rfl rfl rfl qV310 ?_
    refine AL.nil_then (hK _ _ ?_); clear hK K
    refine AW.seq_k (fun K8 hK8 => ?_)
    refine AW.cond _ rfl (fun hc => ?_) (fun hc => ?_)
    · (try simp only [Bool.or_eq_true, Bool.and_eq_true, Bool.or_eq_false_iff, Bool.and_eq_false_iff, Bool.not_eq_true', Bool.not_eq_false', decide_eq_true_eq, decide_eq_false_iff_not, Int.not_lt, Int.not_le] at hc)
      have hkl : k < i := by omega
      have e1 := hf0 k (by omega)
      have e2 := hf1 k (by omega)
      have e3 := hf1 i hil
      refine AW.skip ?_
      refine hK8 _ _ ?_; try clear hK8 K8
      refine AW.seq_k (fun K9 hK9 => ?_)
      refine AW.block ?_
      refine AW.seq_region (fun K hK => ?_)
      refine AL.step rfl rfl rfl qV319 ?_
      refine AL.step rfl rfl rfl qV315 ?_
      refine AL.nil_then (hK _ _ ?_); clear hK K
      apply AW.draw mixed [_, _, _, _, _, _, _, _, _, _, _, _, _, _, _, _, _, _, _, _, _, _, _, _] [] [_] [(0, 0), (1, 0), (2, 0), (3, 0), (4, 0), (5, 0), (6, 0), (7, 0), (8, 0), (9, 0), (10, 0), (11, 0), (12, 0), (13, 0), (14, 0), (15, 0), (16, 0), (17, 0), (18, 0), (19, 0), (20, 0), (21, 0), (22, 0), (23, 0)] rfl rfl rfl (by simp only [List.getD_cons_zero, List.getD_cons_succ]; all_goals apply Eq.refl)
      · refine ⟨?_, ?_, ?_, ?_, ?_, ?_, ?_, ?_, ?_, ?_, ?_, ?_, ?_, ?_, ?_, ?_, ?_, ?_, ?_, ?_, ?_, ?_, ?_, ?_⟩
        · refine Ob.mk _ [8] 0 rfl rfl (restr_cons qV31 restr_nil) rfl ?_
          simp only [List.getD_cons_zero, List.getD_cons_succ]
          exact GStep.plain rfl qV319
        · refine Ob.mk _ [44] 0 rfl rfl (restr_cons qV31 restr_nil) rfl ?_
          simp only [List.getD_cons_zero, List.getD_cons_succ]
          exact GStep.plain rfl qV319
        · refine Ob.mk _ [9, 45] 0 rfl rfl (restr_cons qV31 (restr_cons qV31 restr_nil)) rfl ?_
          simp only [List.getD_cons_zero, List.getD_cons_succ]
          first | exact GStep.yes rfl rfl rfl rfl rfl qV319 | exact GStep.no rfl rfl rfl rfl rfl | exact GStep.none rfl rfl rfl | exact GStep.may rfl rfl rfl rfl qV330 | exact GStep.may2 rfl rfl rfl rfl qV331
        · refine Ob.mk _ [1, 45] 0 rfl rfl (restr_cons qV31 (restr_cons qV31 restr_nil)) rfl ?_
          simp only [List.getD_cons_zero, List.getD_cons_succ]
          first | exact GStep.yes rfl rfl rfl rfl rfl qV328 | exact GStep.no rfl rfl rfl rfl rfl | exact GStep.none rfl rfl rfl | exact GStep.may rfl rfl rfl rfl qV337 | exact GStep.may2 rfl rfl rfl rfl qV338
        · refine Ob.mk _ [47, 45] 0 rfl rfl (restr_cons qV31 (restr_cons qV31 restr_nil)) rfl ?_
          simp only [List.getD_cons_zero, List.getD_cons_succ]
          first | exact GStep.yes rfl rfl rfl rfl rfl qV329 | exact GStep.no rfl rfl rfl rfl rfl | exact GStep.none rfl rfl rfl | exact GStep.may rfl rfl rfl rfl (fun hb => by (try (apply AStepD.uncond 47 rfl (gpf hb))); exact qV329) | exact GStep.may2 rfl rfl rfl rfl (fun _ hb => by (try (apply AStepD.uncond 47 rfl (gpf hb))); exact qV329)
        · refine Ob.mk _ [48, 46, 45] 0 rfl rfl (restr_cons qV31 (restr_cons qV31 (restr_cons qV31 restr_nil))) rfl ?_
          simp only [List.getD_cons_zero, List.getD_cons_succ]
          first | exact GStep.yes rfl rfl rfl rfl rfl qV323 | exact GStep.no rfl rfl rfl rfl rfl | exact GStep.none rfl rfl rfl | exact GStep.may rfl rfl rfl rfl (fun hb => by (try (apply AStepD.uncond 48 rfl (gpf hb))); (try (apply AStepD.uncond 46 rfl (gpf hb))); exact qV323) | exact GStep.may2 rfl rfl rfl rfl (fun _ hb => by (try (apply AStepD.uncond 48 rfl (gpf hb))); (try (apply AStepD.uncond 46 rfl (gpf hb))); exact qV323)
        · refine Ob.mk _ [49, 45] 0 rfl rfl (restr_cons qV31 (restr_cons qV31 restr_nil)) rfl ?_
          simp only [List.getD_cons_zero, List.getD_cons_succ]
          first | exact GStep.yes rfl rfl rfl rfl rfl (by exact AStepD.load_one tok rfl rfl rfl rfl g1 rfl e1) | exact GStep.no rfl rfl rfl rfl rfl | exact GStep.none rfl rfl rfl | exact GStep.may rfl rfl rfl rfl (fun hb => by (try (apply AStepD.uncond 49 rfl (gpf hb))); exact (by exact AStepD.load_one tok rfl rfl rfl rfl g1 rfl e1)) | exact GStep.may2 rfl rfl rfl rfl (fun _ hb => by (try (apply AStepD.uncond 49 rfl (gpf hb))); exact (by exact AStepD.load_one tok rfl rfl rfl rfl g1 rfl e1))
        · refine Ob.mk _ [7, 45] 0 rfl rfl (restr_cons qV31 (restr_cons qV31 restr_nil)) rfl ?_
          simp only [List.getD_cons_zero, List.getD_cons_succ]
          first | exact GStep.yes rfl rfl rfl rfl rfl qV319 | exact GStep.no rfl rfl rfl rfl rfl | exact GStep.none rfl rfl rfl | exact GStep.may rfl rfl rfl rfl (fun hb => by (try (apply AStepD.uncond 7 rfl (gpf hb))); exact qV319) | exact GStep.may2 rfl rfl rfl rfl (fun _ hb => by (try (apply AStepD.uncond 7 rfl (gpf hb))); exact qV319)
        · refine Ob.mk _ [50, 51, 45] 0 rfl rfl (restr_cons qV31 (restr_cons qV31 (restr_cons qV31 restr_nil))) rfl ?_
          simp only [List.getD_cons_zero, List.getD_cons_succ]
          first | exact GStep.yes rfl rfl rfl rfl rfl qV37 | exact GStep.no rfl rfl rfl rfl rfl | exact GStep.none rfl rfl rfl | exact GStep.may rfl rfl rfl rfl (fun hb => by (try (apply AStepD.uncond 50 rfl (gpf hb))); (try (apply AStepD.uncond 51 rfl (gpf hb))); exact qV37) | exact GStep.may2 rfl rfl rfl rfl (fun _ hb => by (try (apply AStepD.uncond 50 rfl (gpf hb))); (try (apply AStepD.uncond 51 rfl (gpf hb))); exact qV37)
        · refine Ob.mk _ [52, 45] 0 rfl rfl (restr_cons qV31 (restr_cons qV31 restr_nil)) rfl ?_
          simp only [List.getD_cons_zero, List.getD_cons_succ]
          first | exact GStep.yes rfl rfl rfl rfl rfl qV319 | exact GStep.no rfl rfl rfl rfl rfl | exact GStep.none rfl rfl rfl | exact GStep.may rfl rfl rfl rfl (fun hb => by (try (apply AStepD.uncond 52 rfl (gpf hb))); exact qV319) | exact GStep.may2 rfl rfl rfl rfl (fun _ hb => by (try (apply AStepD.uncond 52 rfl (gpf hb))); exact qV319)
        · refine Ob.mk _ [9, 53] 0 rfl rfl (restr_cons qV31 (restr_cons qV31 restr_nil)) rfl ?_
          simp only [List.getD_cons_zero, List.getD_cons_succ]
          first | exact GStep.yes rfl rfl rfl rfl rfl qV319 | exact GStep.no rfl rfl rfl rfl rfl | exact GStep.none rfl rfl rfl | exact GStep.may rfl rfl rfl rfl qV330 | exact GStep.may2 rfl rfl rfl rfl qV331
        · refine Ob.mk _ [1, 53] 0 rfl rfl (restr_cons qV31 (restr_cons qV31 restr_nil)) rfl ?_
          simp only [List.getD_cons_zero, List.getD_cons_succ]
          first | exact GStep.yes rfl rfl rfl rfl rfl qV328 | exact GStep.no rfl rfl rfl rfl rfl | exact GStep.none rfl rfl rfl | exact GStep.may rfl rfl rfl rfl qV337 | exact GStep.may2 rfl rfl rfl rfl qV338
        · refine Ob.mk _ [55, 53] 0 rfl rfl (restr_cons qV31 (restr_cons qV31 restr_nil)) rfl ?_
          simp only [List.getD_cons_zero, List.getD_cons_succ]
          first | exact GStep.yes rfl rfl rfl rfl rfl qV332 | exact GStep.no rfl rfl rfl rfl rfl | exact GStep.none rfl rfl rfl | exact GStep.may rfl rfl rfl rfl (fun hb => by (try (apply AStepD.uncond 55 rfl (gpf hb))); exact qV332) | exact GStep.may2 rfl rfl rfl rfl (fun _ hb => by (try (apply AStepD.uncond 55 rfl (gpf hb))); exact qV332)
        · refine Ob.mk _ [56, 54, 53] 0 rfl rfl (restr_cons qV31 (restr_cons qV31 (restr_cons qV31 restr_nil))) rfl ?_
          simp only [List.getD_cons_zero, List.getD_cons_succ]
          first | exact GStep.yes rfl rfl rfl rfl rfl qV323 | exact GStep.no rfl rfl rfl rfl rfl | exact GStep.none rfl rfl rfl | exact GStep.may rfl rfl rfl rfl (fun hb => by (try (apply AStepD.uncond 56 rfl (gpf hb))); (try (apply AStepD.uncond 54 rfl (gpf hb))); exact qV323) | exact GStep.may2 rfl rfl rfl rfl (fun _ hb => by (try (apply AStepD.uncond 56 rfl (gpf hb))); (try (apply AStepD.uncond 54 rfl (gpf hb))); exact qV323)
        · refine Ob.mk _ [57, 53] 0 rfl rfl (restr_cons qV31 (restr_cons qV31 restr_nil)) rfl ?_
          simp only [List.getD_cons_zero, List.getD_cons_succ]
          first | exact GStep.yes rfl rfl rfl rfl rfl (by exact AStepD.load_one tok rfl rfl rfl rfl g1 rfl e2) | exact GStep.no rfl rfl rfl rfl rfl | exact GStep.none rfl rfl rfl | exact GStep.may rfl rfl rfl rfl (fun hb => by (try (apply AStepD.uncond 57 rfl (gpf hb))); exact (by exact AStepD.load_one tok rfl rfl rfl rfl g1 rfl e2)) | exact GStep.may2 rfl rfl rfl rfl (fun _ hb => by (try (apply AStepD.uncond 57 rfl (gpf hb))); exact (by exact AStepD.load_one tok rfl rfl rfl rfl g1 rfl e2))
        · refine Ob.mk _ [6, 53] 0 rfl rfl (restr_cons qV31 (restr_cons qV31 restr_nil)) rfl ?_
          simp only [List.getD_cons_zero, List.getD_cons_succ]
          first | exact GStep.yes rfl rfl rfl rfl rfl qV319 | exact GStep.no rfl rfl rfl rfl rfl | exact GStep.none rfl rfl rfl | exact GStep.may rfl rfl rfl rfl (fun hb => by (try (apply AStepD.uncond 6 rfl (gpf hb))); exact qV319) | exact GStep.may2 rfl rfl rfl rfl (fun _ hb => by (try (apply AStepD.uncond 6 rfl (gpf hb))); exact qV319)
        · refine Ob.mk _ [1, 53] 0 rfl rfl (restr_cons qV31 (restr_cons qV31 restr_nil)) rfl ?_
          simp only [List.getD_cons_zero, List.getD_cons_succ]
          first | exact GStep.yes rfl rfl rfl rfl rfl qV328 | exact GStep.no rfl rfl rfl rfl rfl | exact GStep.none rfl rfl rfl | exact GStep.may rfl rfl rfl rfl qV337 | exact GStep.may2 rfl rfl rfl rfl qV338
        · refine Ob.mk _ [60, 53] 0 rfl rfl (restr_cons qV31 (restr_cons qV31 restr_nil)) rfl ?_
          simp only [List.getD_cons_zero, List.getD_cons_succ]
          first | exact GStep.yes rfl rfl rfl rfl rfl qV332 | exact GStep.no rfl rfl rfl rfl rfl | exact GStep.none rfl rfl rfl | exact GStep.may rfl rfl rfl rfl (fun hb => by (try (apply AStepD.uncond 60 rfl (gpf hb))); exact qV332) | exact GStep.may2 rfl rfl rfl rfl (fun _ hb => by (try (apply AStepD.uncond 60 rfl (gpf hb))); exact qV332)
        · refine Ob.mk _ [61, 59, 53] 0 rfl rfl (restr_cons qV31 (restr_cons qV31 (restr_cons qV31 restr_nil))) rfl ?_
          simp only [List.getD_cons_zero, List.getD_cons_succ]
          first | exact GStep.yes rfl rfl rfl rfl rfl qV323 | exact GStep.no rfl rfl rfl rfl rfl | exact GStep.none rfl rfl rfl | exact GStep.may rfl rfl rfl rfl (fun hb => by (try (apply AStepD.uncond 61 rfl (gpf hb))); (try (apply AStepD.uncond 59 rfl (gpf hb))); exact qV323) | exact GStep.may2 rfl rfl rfl rfl (fun _ hb => by (try (apply AStepD.uncond 61 rfl (gpf hb))); (try (apply AStepD.uncond 59 rfl (gpf hb))); exact qV323)
        · refine Ob.mk _ [62, 53] 0 rfl rfl (restr_cons qV31 (restr_cons qV31 restr_nil)) rfl ?_
          simp only [List.getD_cons_zero, List.getD_cons_succ]
          first | exact GStep.yes rfl rfl rfl rfl rfl (by exact AStepD.load_one tok rfl rfl rfl rfl g1 rfl e3) | exact GStep.no rfl rfl rfl rfl rfl | exact GStep.none rfl rfl rfl | exact GStep.may rfl rfl rfl rfl (fun hb => by (try (apply AStepD.uncond 62 rfl (gpf hb))); exact (by exact AStepD.load_one tok rfl rfl rfl rfl g1 rfl e3)) | exact GStep.may2 rfl rfl rfl rfl (fun _ hb => by (try (apply AStepD.uncond 62 rfl (gpf hb))); exact (by exact AStepD.load_one tok rfl rfl rfl rfl g1 rfl e3))
        · refine Ob.mk _ [58, 63, 53] 0 rfl rfl (restr_cons qV31 (restr_cons qV31 (restr_cons qV31 restr_nil))) rfl ?_
          simp only [List.getD_cons_zero, List.getD_cons_succ]
          first | exact GStep.yes rfl rfl rfl rfl rfl qV37 | exact GStep.no rfl rfl rfl rfl rfl | exact GStep.none rfl rfl rfl | exact GStep.may rfl rfl rfl rfl (fun hb => by (try (apply AStepD.uncond 58 rfl (gpf hb))); (try (apply AStepD.uncond 63 rfl (gpf hb))); exact qV37) | exact GStep.may2 rfl rfl rfl rfl (fun _ hb => by (try (apply AStepD.uncond 58 rfl (gpf hb))); (try (apply AStepD.uncond 63 rfl (gpf hb))); exact qV37)
        · refine Ob.mk _ [53, 64, 45] 0 rfl rfl (restr_cons qV31 (restr_cons qV31 (restr_cons qV31 restr_nil))) rfl ?_
          simp only [List.getD_cons_zero, List.getD_cons_succ]
          first | exact GStep.yes rfl rfl rfl rfl rfl qV325 | exact GStep.no rfl rfl rfl rfl rfl | exact GStep.none rfl rfl rfl | exact GStep.may rfl rfl rfl rfl (fun hb => by (try (apply AStepD.uncond 53 rfl (gpf hb))); (try (apply AStepD.uncond 64 rfl (gpf hb))); exact qV325) | exact GStep.may2 rfl rfl rfl rfl (fun _ hb => by (try (apply AStepD.uncond 53 rfl (gpf hb))); (try (apply AStepD.uncond 64 rfl (gpf hb))); exact qV325)
        · refine Ob.mk _ [45, 65] 0 rfl rfl (restr_cons qV31 (restr_cons qV31 restr_nil)) rfl ?_
          simp only [List.getD_cons_zero, List.getD_cons_succ]
          exact GStep.plain rfl qV325
        · refine Ob.mk _ [66] 0 rfl rfl (restr_cons qV31 restr_nil) rfl ?_
          simp only [List.getD_cons_zero, List.getD_cons_succ]
          exact GStep.plain rfl qV315
      refine hK9 _ _ ?_; try clear hK9 K9
      refine AW.frame (by simp only [frameAt, putA]; all_goals exact rfl) (by simp only [List.length_cons, List.length_nil, Nat.zero_add, Nat.reduceAdd, List.getD_cons_zero, List.getD_cons_succ]; all_goals apply Eq.refl) ?_
      refine AW.region ?_
      refine AL.step rfl rfl rfl (by exact AStepD.add (r := ((k + 1 : Nat) : Int)) rfl rfl rfl (IntWalk.i64_in _ (by omega))) ?_
      refine AL.step rfl rfl rfl qV319 ?_
      refine AL.nil ?_
      exact ⟨k + 1, by omega, (by rw [frst_step]; exact qV322), by omega, g1⟩
    (try simp only [Bool.or_eq_true, Bool.and_eq_true, Bool.or_eq_false_iff, Bool.and_eq_false_iff, Bool.not_eq_true', Bool.not_eq_false', decide_eq_true_eq, decide_eq_false_iff_not, Int.not_lt, Int.not_le] at hc)
    obtain rfl : k = i := by omega
    refine AW.exit ?_
    refine hK7 _ _ ?_; try clear hK7 K7 hK8 K8
    refine AW.seq_region (fun K hK => ?_)
    refine AL.step rfl rfl rfl qV319 ?_
    refine AL.nil_then (hK _ _ ?_); clear hK K
    rw [frst_end]
    refine AW.cond _ rfl (fun hc => ?_) (fun hc => ?_)
    · have hw : wantN s.g (k + 1) = wantN s.g k + 1 := by rw [want_next, if_pos hc]
      refine AW.region ?_
      refine AL.step rfl rfl rfl qV319 ?_
      refine AL.step rfl rfl rfl (by exact AStepD.add (r := ((1 + s.known.length + wantN s.g k + 1 : Nat) : Int)) rfl rfl rfl (IntWalk.i64_in _ (by omega))) ?_
      refine AL.step rfl rfl rfl qV315 ?_
      refine AL.nil ?_
      refine hK6 _ _ ?_; try clear hK6 K6
      refine AW.region ?_
      refine AL.step rfl rfl rfl (by exact AStepD.add (r := ((k + 1 : Nat) : Int)) rfl rfl rfl (IntWalk.i64_in _ (by omega))) ?_
      refine AL.step rfl rfl rfl qV319 ?_
      refine AL.nil ?_
      exact ⟨k + 1, by omega, (by rw [hw]; exact qV322), by omega, g1⟩
    · refine AW.skip ?_
      refine hK6 _ _ ?_; try clear hK6 K6
      refine AW.region ?_
      refine AL.step rfl rfl rfl (by exact AStepD.add (r := ((k + 1 : Nat) : Int)) rfl rfl rfl (IntWalk.i64_in _ (by omega))) ?_
      refine AL.step rfl rfl rfl qV319 ?_
      refine AL.nil ?_
      have hw : wantN s.g (k + 1) = wantN s.g k := by rw [want_next, if_neg (by rw [hc]; decide)]; rfl
      exact ⟨k + 1, by omega, (by rw [hw]; exact qV322), by omega, g1⟩
  (try simp only [Bool.or_eq_true, Bool.and_eq_true, Bool.or_eq_false_iff, Bool.and_eq_false_iff, Bool.not_eq_true', Bool.not_eq_false', decide_eq_true_eq, decide_eq_false_iff_not, Int.not_lt, Int.not_le] at hc)
  obtain rfl : i = 64 := by omega
  have hw : wantN s.g 64 = (pairsG s.g).length := count_first s.g
  rw [hw, ← hcount]
  refine AW.exit ?_
  refine hK4 _ _ ?_; try clear hK4 K4 hK5 K5
  refine AW.seq_region (fun K hK => ?_)
  refine AL.step rfl rfl rfl qV315 ?_
  refine AL.nil_then (hK _ _ ?_); clear hK K
  refine AW.seq_k (fun K10 hK10 => ?_)
  refine AW.seq_region (fun K hK => ?_)
  refine AL.step rfl rfl rfl qV319 ?_
  refine AL.step rfl rfl rfl (by exact strA_len tok rfl rfl rfl rfl) ?_
  refine AL.step rfl rfl rfl qV319 ?_
  refine AL.nil_then (hK _ _ ?_); clear hK K
  refine AW.block ?_
  refine AW.loop_at (ι := Nat) (fun i => [(74, .v (.int .i64 (i : Nat))), (73, .v (.int .i64 (t.length : Nat))), (10, .v (.int .i64 (((t.take i).count 10 : Nat) : Int))), (5, .v (.int .i64 ((t.count 10 : Nat) : Int))), (3, strA t), (2, .v (.bool false))])
    (fun i H' => i ≤ t.length) (fun i => t.length - i) 0 qV322 (Nat.zero_le _) ?_
  intro i H4 hi
  have hct : (t.take i).count 10 ≤ i := Nat.le_trans List.count_le_length (by rw [List.length_take]; omega)
  refine AW.seq_region (fun K hK => ?_)
  refine AL.step rfl rfl rfl qV310 ?_
  refine AL.nil_then (hK _ _ ?_); clear hK K
  refine AW.seq_k (fun K11 hK11 => ?_)
  refine AW.cond _ rfl (fun hc => ?_) (fun hc => ?_)
  · (try simp only [Bool.or_eq_true, Bool.and_eq_true, Bool.or_eq_false_iff, Bool.and_eq_false_iff, Bool.not_eq_true', Bool.not_eq_false', decide_eq_true_eq, decide_eq_false_iff_not, Int.not_lt, Int.not_le] at hc)
    have hil : i < t.length := by omega
    have hcn := count_take hil
    refine AW.skip ?_
    refine hK11 _ _ ?_; try clear hK11 K11
    refine AW.seq_k (fun K12 hK12 => ?_)
    refine AW.block ?_
    refine AW.seq_region (fun K hK => ?_)
    refine AL.step rfl rfl rfl qV319 ?_
    refine AL.step rfl rfl rfl qV315 ?_
    refine AL.nil_then (hK _ _ ?_); clear hK K
    by_cases h10 : at8 t i = 10
    · obtain ⟨h0, hn1, hn2⟩ := before_at hbef hil h10
      rw [if_pos h10] at hcn
      refine AW.seq_region (fun K hK => ?_)
      refine AL.step rfl rfl rfl qV319 ?_
      refine AL.step rfl rfl rfl qV319 ?_
      refine AL.step rfl rfl rfl (by exact strA_index tok rfl rfl rfl rfl rfl rfl hil) ?_
      refine AL.step rfl rfl rfl (by exact AStepD.bool (AStepD.eql rfl rfl rfl) (c := true) (decide_eq_true (by rw [h10]; rfl))) ?_
      refine AL.nil_then (hK _ _ ?_); clear hK K
      refine AW.cond_true rfl rfl ?_
      refine AW.seq_region (fun K hK => ?_)
      refine AL.step rfl rfl rfl qV319 ?_
      refine AL.step rfl rfl rfl (by exact AStepD.add (r := (((t.take i).count 10 + 1 : Nat) : Int)) rfl rfl rfl (IntWalk.i64_in _ (by omega))) ?_
      refine AL.step rfl rfl rfl qV315 ?_
      refine AL.nil_then (hK _ _ ?_); clear hK K
      refine AW.seq_region (fun K hK => ?_)
      refine AL.step rfl rfl rfl qV319 ?_
      refine AL.step rfl rfl rfl (by exact AStepD.bool (AStepD.eql rfl rfl rfl) (c := false) (decide_eq_false (by omega))) ?_
      refine AL.step rfl rfl rfl qV319 ?_
      first | refine AL.gstep rfl rfl rfl rfl rfl rfl rfl qV319 ?_ | refine AL.gskip rfl rfl rfl rfl rfl rfl rfl ?_ | refine AL.gnone rfl rfl rfl rfl rfl ?_ | refine AL.gmay rfl rfl rfl rfl rfl rfl qV333 ?_ | refine AL.gmay2 rfl rfl rfl rfl rfl rfl qV334 ?_
      first | refine AL.gstep rfl rfl rfl rfl rfl rfl rfl qV319 ?_ | refine AL.gskip rfl rfl rfl rfl rfl rfl rfl ?_ | refine AL.gnone rfl rfl rfl rfl rfl ?_ | refine AL.gmay rfl rfl rfl rfl rfl rfl qV335 ?_ | refine AL.gmay2 rfl rfl rfl rfl rfl rfl qV336 ?_
      first | refine AL.gstep rfl rfl rfl rfl rfl rfl rfl (by exact AStepD.sub (r := ((i - 1 : Nat) : Int)) rfl rfl rfl (by rw [show (i : Int) - 1 = ((i - 1 : Nat) : Int) by omega]; exact IntWalk.i64_in _ (by omega))) ?_ | refine AL.gskip rfl rfl rfl rfl rfl rfl rfl ?_ | refine AL.gnone rfl rfl rfl rfl rfl ?_ | refine AL.gmay rfl rfl rfl rfl rfl rfl (fun hb => by (try (apply AStepD.uncond 87 rfl (gpf hb))); exact (by exact AStepD.sub (r := ((i - 1 : Nat) : Int)) rfl rfl rfl (by rw [show (i : Int) - 1 = ((i - 1 : Nat) : Int) by omega]; exact IntWalk.i64_in _ (by omega)))) ?_ | refine AL.gmay2 rfl rfl rfl rfl rfl rfl (fun _ hb => by (try (apply AStepD.uncond 87 rfl (gpf hb))); exact (by exact AStepD.sub (r := ((i - 1 : Nat) : Int)) rfl rfl rfl (by rw [show (i : Int) - 1 = ((i - 1 : Nat) : Int) by omega]; exact IntWalk.i64_in _ (by omega)))) ?_
      first | refine AL.gstep rfl rfl rfl rfl rfl rfl rfl (by exact strA_index tok rfl rfl rfl rfl rfl rfl (by omega)) ?_ | refine AL.gskip rfl rfl rfl rfl rfl rfl rfl ?_ | refine AL.gnone rfl rfl rfl rfl rfl ?_ | refine AL.gmay rfl rfl rfl rfl rfl rfl (fun hb => by (try (apply AStepD.uncond 86 rfl (gpf hb))); (try (apply AStepD.uncond 88 rfl (gpf hb))); exact (by exact strA_index tok rfl rfl rfl rfl rfl rfl (by omega))) ?_ | refine AL.gmay2 rfl rfl rfl rfl rfl rfl (fun _ hb => by (try (apply AStepD.uncond 86 rfl (gpf hb))); (try (apply AStepD.uncond 88 rfl (gpf hb))); exact (by exact strA_index tok rfl rfl rfl rfl rfl rfl (by omega))) ?_
      first | refine AL.gstep rfl rfl rfl rfl rfl rfl rfl (by exact AStepD.bool (AStepD.eql rfl rfl rfl) (c := false) (decide_eq_false (by omega))) ?_ | refine AL.gskip rfl rfl rfl rfl rfl rfl rfl ?_ | refine AL.gnone rfl rfl rfl rfl rfl ?_ | refine AL.gmay rfl rfl rfl rfl rfl rfl (fun hb => by (try (apply AStepD.uncond 89 rfl (gpf hb))); exact (by exact AStepD.bool (AStepD.eql rfl rfl rfl) (c := false) (decide_eq_false (by omega)))) ?_ | refine AL.gmay2 rfl rfl rfl rfl rfl rfl (fun _ hb => by (try (apply AStepD.uncond 89 rfl (gpf hb))); exact (by exact AStepD.bool (AStepD.eql rfl rfl rfl) (c := false) (decide_eq_false (by omega)))) ?_
      refine AL.step rfl rfl rfl qV325 ?_
      refine AL.step rfl rfl rfl qV319 ?_
      first | refine AL.gstep rfl rfl rfl rfl rfl rfl rfl qV319 ?_ | refine AL.gskip rfl rfl rfl rfl rfl rfl rfl ?_ | refine AL.gnone rfl rfl rfl rfl rfl ?_ | refine AL.gmay rfl rfl rfl rfl rfl rfl qV333 ?_ | refine AL.gmay2 rfl rfl rfl rfl rfl rfl qV334 ?_
      first | refine AL.gstep rfl rfl rfl rfl rfl rfl rfl qV319 ?_ | refine AL.gskip rfl rfl rfl rfl rfl rfl rfl ?_ | refine AL.gnone rfl rfl rfl rfl rfl ?_ | refine AL.gmay rfl rfl rfl rfl rfl rfl qV335 ?_ | refine AL.gmay2 rfl rfl rfl rfl rfl rfl qV336 ?_
      first | refine AL.gstep rfl rfl rfl rfl rfl rfl rfl (by exact AStepD.sub (r := ((i - 1 : Nat) : Int)) rfl rfl rfl (by rw [show (i : Int) - 1 = ((i - 1 : Nat) : Int) by omega]; exact IntWalk.i64_in _ (by omega))) ?_ | refine AL.gskip rfl rfl rfl rfl rfl rfl rfl ?_ | refine AL.gnone rfl rfl rfl rfl rfl ?_ | refine AL.gmay rfl rfl rfl rfl rfl rfl (fun hb => by (try (apply AStepD.uncond 94 rfl (gpf hb))); exact (by exact AStepD.sub (r := ((i - 1 : Nat) : Int)) rfl rfl rfl (by rw [show (i : Int) - 1 = ((i - 1 : Nat) : Int) by omega]; exact IntWalk.i64_in _ (by omega)))) ?_ | refine AL.gmay2 rfl rfl rfl rfl rfl rfl (fun _ hb => by (try (apply AStepD.uncond 94 rfl (gpf hb))); exact (by exact AStepD.sub (r := ((i - 1 : Nat) : Int)) rfl rfl rfl (by rw [show (i : Int) - 1 = ((i - 1 : Nat) : Int) by omega]; exact IntWalk.i64_in _ (by omega)))) ?_
      first | refine AL.gstep rfl rfl rfl rfl rfl rfl rfl (by exact strA_index tok rfl rfl rfl rfl rfl rfl (by omega)) ?_ | refine AL.gskip rfl rfl rfl rfl rfl rfl rfl ?_ | refine AL.gnone rfl rfl rfl rfl rfl ?_ | refine AL.gmay rfl rfl rfl rfl rfl rfl (fun hb => by (try (apply AStepD.uncond 93 rfl (gpf hb))); (try (apply AStepD.uncond 95 rfl (gpf hb))); exact (by exact strA_index tok rfl rfl rfl rfl rfl rfl (by omega))) ?_ | refine AL.gmay2 rfl rfl rfl rfl rfl rfl (fun _ hb => by (try (apply AStepD.uncond 93 rfl (gpf hb))); (try (apply AStepD.uncond 95 rfl (gpf hb))); exact (by exact strA_index tok rfl rfl rfl rfl rfl rfl (by omega))) ?_
      first | refine AL.gstep rfl rfl rfl rfl rfl rfl rfl (by exact AStepD.bool (AStepD.eql rfl rfl rfl) (c := false) (decide_eq_false (by omega))) ?_ | refine AL.gskip rfl rfl rfl rfl rfl rfl rfl ?_ | refine AL.gnone rfl rfl rfl rfl rfl ?_ | refine AL.gmay rfl rfl rfl rfl rfl rfl (fun hb => by (try (apply AStepD.uncond 96 rfl (gpf hb))); exact (by exact AStepD.bool (AStepD.eql rfl rfl rfl) (c := false) (decide_eq_false (by omega)))) ?_ | refine AL.gmay2 rfl rfl rfl rfl rfl rfl (fun _ hb => by (try (apply AStepD.uncond 96 rfl (gpf hb))); exact (by exact AStepD.bool (AStepD.eql rfl rfl rfl) (c := false) (decide_eq_false (by omega)))) ?_
      refine AL.step rfl rfl rfl qV325 ?_
      refine AL.nil_then (hK _ _ ?_); clear hK K
      refine AW.cond_false rfl rfl (AW.skip ?_)
      refine hK12 _ _ ?_; try clear hK12 K12
      refine AW.region ?_
      refine AL.step rfl rfl rfl (by exact AStepD.add (r := ((i + 1 : Nat) : Int)) rfl rfl rfl (IntWalk.i64_in _ (by omega))) ?_
      refine AL.step rfl rfl rfl qV319 ?_
      refine AL.nil ?_
      exact ⟨i + 1, by omega, (by rw [hcn]; exact qV322), hil⟩
    · rw [if_neg h10] at hcn
      refine AW.seq_region (fun K hK => ?_)
      refine AL.step rfl rfl rfl qV319 ?_
      refine AL.step rfl rfl rfl qV319 ?_
      refine AL.step rfl rfl rfl (by exact strA_index tok rfl rfl rfl rfl rfl rfl hil) ?_
      refine AL.step rfl rfl rfl (by exact AStepD.bool (AStepD.eql rfl rfl rfl) (c := false) (decide_eq_false (by omega))) ?_
      refine AL.nil_then (hK _ _ ?_); clear hK K
      refine AW.cond_false rfl rfl (AW.skip ?_)
      refine hK12 _ _ ?_; try clear hK12 K12
      refine AW.region ?_
      refine AL.step rfl rfl rfl (by exact AStepD.add (r := ((i + 1 : Nat) : Int)) rfl rfl rfl (IntWalk.i64_in _ (by omega))) ?_
      refine AL.step rfl rfl rfl qV319 ?_
      refine AL.nil ?_
      exact ⟨i + 1, by omega, (by rw [hcn]; exact qV322), hil⟩
  (try simp only [Bool.or_eq_true, Bool.and_eq_true, Bool.or_eq_false_iff, Bool.and_eq_false_iff, Bool.not_eq_true', Bool.not_eq_false', decide_eq_true_eq, decide_eq_false_iff_not, Int.not_lt, Int.not_le] at hc)
  obtain rfl : i = t.length := by omega
  rw [List.take_length]
  have htl : t.length = dx.length + 1 := by rw [hdx, List.length_append, List.length_singleton]
  have hlast : at8 t (t.length - 1) = 10 := by
    rw [htl, Nat.add_sub_cancel, at8, hdx, List.getD_eq_getElem?_getD, List.getElem?_append_right (Nat.le_refl _), Nat.sub_self]; rfl
  refine AW.exit ?_
  refine hK10 _ _ ?_; try clear hK10 K10 hK11 K11
  refine AW.seq_region (fun K hK => ?_)
  refine AL.step rfl rfl rfl qV319 ?_
  refine AL.step rfl rfl rfl qV319 ?_
  refine AL.step rfl rfl rfl (by exact AStepD.bool (AStepD.eql rfl rfl rfl) (c := true) (decide_eq_true rfl)) ?_
  refine AL.step rfl rfl rfl qV319 ?_
  first | refine AL.gstep rfl rfl rfl rfl rfl rfl rfl qV319 ?_ | refine AL.gskip rfl rfl rfl rfl rfl rfl rfl ?_ | refine AL.gnone rfl rfl rfl rfl rfl ?_ | refine AL.gmay rfl rfl rfl rfl rfl rfl qV333 ?_ | refine AL.gmay2 rfl rfl rfl rfl rfl rfl qV334 ?_
  first | refine AL.gstep rfl rfl rfl rfl rfl rfl rfl qV319 ?_ | refine AL.gskip rfl rfl rfl rfl rfl rfl rfl ?_ | refine AL.gnone rfl rfl rfl rfl rfl ?_ | refine AL.gmay rfl rfl rfl rfl rfl rfl qV333 ?_ | refine AL.gmay2 rfl rfl rfl rfl rfl rfl qV334 ?_
  first | refine AL.gstep rfl rfl rfl rfl rfl rfl rfl (by exact strA_len tok rfl rfl rfl rfl) ?_ | refine AL.gskip rfl rfl rfl rfl rfl rfl rfl ?_ | refine AL.gnone rfl rfl rfl rfl rfl ?_ | refine AL.gmay rfl rfl rfl rfl rfl rfl (fun hb => by (try (apply AStepD.uncond 105 rfl (gpf hb))); exact (by exact strA_len tok rfl rfl rfl rfl)) ?_ | refine AL.gmay2 rfl rfl rfl rfl rfl rfl (fun _ hb => by (try (apply AStepD.uncond 105 rfl (gpf hb))); exact (by exact strA_len tok rfl rfl rfl rfl)) ?_
  first | refine AL.gstep rfl rfl rfl rfl rfl rfl rfl (by exact AStepD.sub (r := ((t.length - 1 : Nat) : Int)) rfl rfl rfl (by rw [show (t.length : Int) - 1 = ((t.length - 1 : Nat) : Int) by omega]; exact IntWalk.i64_in _ (by omega))) ?_ | refine AL.gskip rfl rfl rfl rfl rfl rfl rfl ?_ | refine AL.gnone rfl rfl rfl rfl rfl ?_ | refine AL.gmay rfl rfl rfl rfl rfl rfl (fun hb => by (try (apply AStepD.uncond 106 rfl (gpf hb))); exact (by exact AStepD.sub (r := ((t.length - 1 : Nat) : Int)) rfl rfl rfl (by rw [show (t.length : Int) - 1 = ((t.length - 1 : Nat) : Int) by omega]; exact IntWalk.i64_in _ (by omega)))) ?_ | refine AL.gmay2 rfl rfl rfl rfl rfl rfl (fun _ hb => by (try (apply AStepD.uncond 106 rfl (gpf hb))); exact (by exact AStepD.sub (r := ((t.length - 1 : Nat) : Int)) rfl rfl rfl (by rw [show (t.length : Int) - 1 = ((t.length - 1 : Nat) : Int) by omega]; exact IntWalk.i64_in _ (by omega)))) ?_
  first | refine AL.gstep rfl rfl rfl rfl rfl rfl rfl (by exact strA_index tok rfl rfl rfl rfl rfl rfl (by omega)) ?_ | refine AL.gskip rfl rfl rfl rfl rfl rfl rfl ?_ | refine AL.gnone rfl rfl rfl rfl rfl ?_ | refine AL.gmay rfl rfl rfl rfl rfl rfl (fun hb => by (try (apply AStepD.uncond 104 rfl (gpf hb))); (try (apply AStepD.uncond 107 rfl (gpf hb))); exact (by exact strA_index tok rfl rfl rfl rfl rfl rfl (by omega))) ?_ | refine AL.gmay2 rfl rfl rfl rfl rfl rfl (fun _ hb => by (try (apply AStepD.uncond 104 rfl (gpf hb))); (try (apply AStepD.uncond 107 rfl (gpf hb))); exact (by exact strA_index tok rfl rfl rfl rfl rfl rfl (by omega))) ?_
  first | refine AL.gstep rfl rfl rfl rfl rfl rfl rfl (by exact AStepD.bool (AStepD.eql rfl rfl rfl) (c := true) (decide_eq_true (by rw [hlast]; rfl))) ?_ | refine AL.gskip rfl rfl rfl rfl rfl rfl rfl ?_ | refine AL.gnone rfl rfl rfl rfl rfl ?_ | refine AL.gmay rfl rfl rfl rfl rfl rfl (fun hb => by (try (apply AStepD.uncond 108 rfl (gpf hb))); exact (by exact AStepD.bool (AStepD.eql rfl rfl rfl) (c := true) (decide_eq_true (by rw [hlast]; rfl)))) ?_ | refine AL.gmay2 rfl rfl rfl rfl rfl rfl (fun _ hb => by (try (apply AStepD.uncond 108 rfl (gpf hb))); exact (by exact AStepD.bool (AStepD.eql rfl rfl rfl) (c := true) (decide_eq_true (by rw [hlast]; rfl)))) ?_
  refine AL.step rfl rfl rfl qV325 ?_
  refine AL.step rfl rfl rfl qV319 ?_
  first | refine AL.gstep rfl rfl rfl rfl rfl rfl rfl qV319 ?_ | refine AL.gskip rfl rfl rfl rfl rfl rfl rfl ?_ | refine AL.gnone rfl rfl rfl rfl rfl ?_ | refine AL.gmay rfl rfl rfl rfl rfl rfl qV333 ?_ | refine AL.gmay2 rfl rfl rfl rfl rfl rfl qV334 ?_
  first | refine AL.gstep rfl rfl rfl rfl rfl rfl rfl (by exact strA_len tok rfl rfl rfl rfl) ?_ | refine AL.gskip rfl rfl rfl rfl rfl rfl rfl ?_ | refine AL.gnone rfl rfl rfl rfl rfl ?_ | refine AL.gmay rfl rfl rfl rfl rfl rfl (fun hb => by (try (apply AStepD.uncond 112 rfl (gpf hb))); exact (by exact strA_len tok rfl rfl rfl rfl)) ?_ | refine AL.gmay2 rfl rfl rfl rfl rfl rfl (fun _ hb => by (try (apply AStepD.uncond 112 rfl (gpf hb))); exact (by exact strA_len tok rfl rfl rfl rfl)) ?_
  first | refine AL.gstep rfl rfl rfl rfl rfl rfl rfl (by exact AStepD.bool (AStepD.lss rfl rfl rfl) (c := true) (decide_eq_true (by omega))) ?_ | refine AL.gskip rfl rfl rfl rfl rfl rfl rfl ?_ | refine AL.gnone rfl rfl rfl rfl rfl ?_ | refine AL.gmay rfl rfl rfl rfl rfl rfl (fun hb => by (try (apply AStepD.uncond 113 rfl (gpf hb))); exact (by exact AStepD.bool (AStepD.lss rfl rfl rfl) (c := true) (decide_eq_true (by omega)))) ?_ | refine AL.gmay2 rfl rfl rfl rfl rfl rfl (fun _ hb => by (try (apply AStepD.uncond 113 rfl (gpf hb))); exact (by exact AStepD.bool (AStepD.lss rfl rfl rfl) (c := true) (decide_eq_true (by omega)))) ?_
  refine AL.step rfl rfl rfl qV325 ?_
  refine AL.step rfl rfl rfl qV315 ?_
  refine AL.nil_then (hK _ _ ?_); clear hK K
  exact AW.ret (RetQ.mk (.inr rfl) (retA_tmp rfl qV31 retA_nil) rfl)
end Go.Proofs.YtbcanlmpfhkklaaGreatDoor
