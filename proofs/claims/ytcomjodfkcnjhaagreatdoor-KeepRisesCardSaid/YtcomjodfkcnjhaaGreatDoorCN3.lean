/- A state's text, plainly. -/
import Derived.Test.YtcomjodfkcnjhaaGreatDoorCN2
set_option linter.unusedSimpArgs false
set_option linter.unusedVariables false
namespace Go.Proofs.YtcomjodfkcnjhaaGreatDoor
open Go.Ax
open Cel (c)
set_option linter.unusedSimpArgs false
set_option linter.unusedVariables false

abbrev wS : List UInt8 := [115, 101, 108, 102]
abbrev wM : List UInt8 := [109, 97, 115, 116, 101, 114]
abbrev wC : List UInt8 := [99, 117, 114, 114, 101, 110, 116]
abbrev wV : List UInt8 := [118, 111, 116, 101]
abbrev wG : List UInt8 := [99, 111, 110, 102, 105, 103]
abbrev wN : List UInt8 := [110, 111, 100, 101]
abbrev wL : List UInt8 := [115, 108, 111, 116, 115]
abbrev wE : List UInt8 := [101, 112, 111, 99, 104]
def lineH (s : Stt) : List Prt := [.s wS, .n s.id, .s wM, .n s.master, .s wC, .n s.cur, .s wV, .n s.vote, .s wG, .n s.cfg]
def lineK (k : Kn) : List Prt := [.s wN, .n k.id, .s wM, .n k.master, .s wG, .n k.cfg]
def lineS (w e : Int) (b : BitVec 64) : List Prt := [.s wL, .n w, .s wE, .n e, .s [58], .s (textS b)]
def setG (g : Nat → Int × Int) (p : Int × Int) : BitVec 64 := bitsF (fun i => decide (g i = p)) 64
def lineP (g : Nat → Int × Int) (p : Int × Int) : List Prt := lineS p.1 p.2 (setG g p)
def linesW (g : Nat → Int × Int) (w : Int) : List (List Prt) := (epochsG g w).map fun e => lineP g (w, e)
def allL (s : Stt) : List (List Prt) := lineH s :: (s.known.map lineK ++ (ownersG s.g).flatMap (linesW s.g))
def docL (ls : List (List Prt)) : List UInt8 := ls.flatMap fun ps => jL ps ++ [10]
def docT (s : Stt) : List UInt8 := docL (allL s)
theorem allL_eq (s : Stt) : allL s = lineH s :: (s.known.map lineK ++ (pairsG s.g).map (lineP s.g)) := by
  have : (pairsG s.g).map (lineP s.g) = (ownersG s.g).flatMap (linesW s.g) := by
    rw [pairsG, List.map_flatMap]
    refine congrArg (fun f => (ownersG s.g).flatMap f) (funext fun w => ?_)
    rw [List.map_map]; rfl
  rw [this]; rfl
theorem docL_append (a b : List (List Prt)) : docL (a ++ b) = docL a ++ docL b := List.flatMap_append
theorem docL_one (ps : List Prt) : docL [ps] = jL ps ++ [10] := by simp [docL]
def GL (ps : List Prt) : Prop := (∀ p ∈ ps, p.ok ∧ p.txt.length ≤ 400) ∧ ps.length ≤ 10
theorem GL.len {ps : List Prt} (h : GL ps) : (jL ps).length ≤ 4010 := by
  have := join_len (ps.map Prt.txt) 400 fun x hx => by
    obtain ⟨p, hp, rfl⟩ := List.mem_map.1 hx
    exact (h.1 p hp).2
  rw [List.length_map] at this
  have h2 := h.2
  rw [jL]; omega
theorem docL_len : ∀ {ls : List (List Prt)}, (∀ ps ∈ ls, GL ps) → (docL ls).length ≤ 4011 * ls.length
  | [], _ => Nat.le_refl _
  | ps :: ls, h => by
    have h1 := (h ps (List.mem_cons_self ..)).len
    have h2 := docL_len (ls := ls) fun q hq => h q (List.mem_cons_of_mem _ hq)
    rw [show ps :: ls = [ps] ++ ls from rfl, docL_append, docL_one, List.length_append, List.length_append, List.length_append, List.length_singleton, List.length_singleton]
    omega
theorem Prt.nok {n : Int} (h0 : 0 ≤ n) (h1 : n ≤ 281474976710656) : (Prt.n n).ok ∧ (Prt.n n).txt.length ≤ 400 := by
  obtain ⟨m, rfl⟩ := Int.eq_ofNat_of_zero_le h0
  refine ⟨⟨h0, by omega⟩, ?_⟩
  rw [Prt.txt, itoa_nat]
  have := dec_short (n := m) (by omega)
  omega
theorem Prt.sok {l : List UInt8} (h0 : l ≠ []) (h1 : l.length ≤ 400) : (Prt.s l).ok ∧ (Prt.s l).txt.length ≤ 400 := ⟨⟨h0, by omega⟩, h1⟩
structure Rt (s : Stt) : Prop where
  id : 1 ≤ s.id ∧ s.id ≤ 4294967296
  master : 0 ≤ s.master ∧ s.master ≤ 4294967296
  cur : 0 ≤ s.cur ∧ s.cur ≤ 281474976710656
  vote : 0 ≤ s.vote ∧ s.vote ≤ s.cur
  cfg : 0 ≤ s.cfg ∧ s.cfg ≤ s.cur
  known : ∀ k ∈ s.known, (1 ≤ k.id ∧ k.id ≤ 4294967296) ∧ (0 ≤ k.master ∧ k.master ≤ 4294967296) ∧ 0 ≤ k.cfg ∧ k.cfg ≤ 281474976710656
  len : s.known.length ≤ 15
  slot : ∀ i, i < 64 → (0 ≤ s.ow i ∧ s.ow i ≤ 4294967296) ∧ (0 ≤ s.ep i ∧ s.ep i ≤ 281474976710656) ∧ (s.ow i = 0 → s.ep i = 0)
  rise : s.known.Pairwise fun a b => a.id < b.id
theorem kn_all {sid : Int} : ∀ {l : List Kn} {last : Int}, knB sid last l = true → (∀ k ∈ l, kn1 sid last k = true) ∧ l.Pairwise fun a b => a.id < b.id
  | [], _, _ => ⟨(fun _ h => nomatch h), .nil⟩
  | k :: l, last, h => by
    rw [knB, Bool.and_eq_true] at h
    obtain ⟨h1, h2⟩ := kn_all h.2
    have lt : ∀ {last : Int} {k : Kn}, kn1 sid last k = true → last < k.id := fun h => by
      simp only [kn1, Bool.and_eq_true, decide_eq_true_eq] at h; exact h.1.1.1.2
    refine ⟨fun q hq => ?_, List.pairwise_cons.2 ⟨fun q hq => lt (h1 q hq), h2⟩⟩
    rcases List.mem_cons.1 hq with rfl | hq
    · exact h.1
    · have a := h1 q hq
      have b := lt h.1
      simp only [kn1, Bool.and_eq_true, decide_eq_true_eq] at a ⊢
      exact ⟨⟨⟨⟨a.1.1.1.1, by omega⟩, a.1.1.2⟩, a.1.2⟩, a.2⟩
theorem mas_le {n o : Int} (h : masB n o = true) : 0 ≤ n ∧ n ≤ 4294967296 := by
  simp only [masB, idB, Bool.or_eq_true, Bool.and_eq_true, decide_eq_true_eq] at h; omega
theorem right_rt {s : Stt} (h : rightB s = true) : Rt s := by
  simp only [rightB, eposB, Bool.and_eq_true, decide_eq_true_eq] at h
  obtain ⟨h1, ⟨⟨⟨⟨h2, h3⟩, h4⟩, h5⟩, h6⟩, h7⟩ := h
  obtain ⟨k1, k2⟩ := kn_all h1
  simp only [idB, Bool.and_eq_true, decide_eq_true_eq] at h2
  refine ⟨h2, mas_le h3, by omega, by omega, by omega, fun k hk => ?_, by omega, fun i hi => ?_, k2⟩
  · have a := k1 k hk
    simp only [kn1, idB, epB, Bool.and_eq_true, decide_eq_true_eq] at a
    exact ⟨a.1.1.1.1, mas_le a.1.2, a.2⟩
  · have := List.all_eq_true.1 h6 i (List.mem_range.2 hi)
    simp only [slotB, epB, Bool.and_eq_true, Bool.or_eq_true, decide_eq_true_eq] at this
    obtain ⟨⟨⟨a, b⟩, cc⟩, d⟩ := this
    exact ⟨⟨a, b⟩, cc, fun e => d.elim (fun h => absurd e h) id⟩
theorem setG_get (g : Nat → Int × Int) (p : Int × Int) (i : Nat) : (setG g p).getLsbD i = (decide (i < 64) && decide (g i = p)) := bitsF_get _ 64 i (Nat.le_refl _)
theorem setG_ne {g : Nat → Int × Int} {p : Int × Int} (h : ∃ i, i < 64 ∧ g i = p) : setG g p ≠ 0#64 := by
  obtain ⟨i, hi, e⟩ := h
  intro h0
  have := setG_get g p i
  rw [h0, BitVec.getLsbD_zero, decide_eq_true hi, decide_eq_true e] at this
  cases this
theorem textG_ne {g : Nat → Int × Int} {p : Int × Int} (h : ∃ i, i < 64 ∧ g i = p) : textS (setG g p) ≠ [] := fun e => setG_ne h (text_inj (e.trans text_zero.symm))
theorem own_mem {s : Stt} (h : s.Ok) (w : Int) : w ∈ s.own ↔ ∃ i, i < 64 ∧ s.ow i = w := by
  rw [List.mem_iff_getElem]
  constructor
  · rintro ⟨i, hi, e⟩
    exact ⟨i, by rw [← h.o]; exact hi, by rw [Stt.ow, ← getD_at s.own hi]; exact e⟩
  · rintro ⟨i, hi, e⟩
    exact ⟨i, by rw [h.o]; exact hi, by rw [getD_at s.own (by rw [h.o]; exact hi)]; exact e⟩
theorem owners_eq {s : Stt} (h : s.Ok) : ownL s.own = ownersG s.g := by
  rw [ownL_eq, ownersG]
  refine (uniqU_eq (uniqU_rise _) fun x => ?_)
  rw [mem_uniqU, List.mem_filter, List.mem_filter, own_mem h, gAll, List.map_map, List.mem_map]
  refine and_congr ⟨?_, ?_⟩ Iff.rfl
  · rintro ⟨i, hi, e⟩; exact ⟨i, List.mem_range.2 hi, e⟩
  · rintro ⟨i, hi, e⟩; exact ⟨i, List.mem_range.1 hi, e⟩
theorem lineP_ok {s : Stt} (r : Rt s) {p : Int × Int} (h : ∃ i, i < 64 ∧ s.g i = p) : GL (lineP s.g p) := by
  obtain ⟨i, hi, rfl⟩ := h
  obtain ⟨h1, h2, h3⟩ := r.slot i hi
  refine ⟨?_, (by show 6 ≤ 10; decide)⟩
  have := textG_ne (g := s.g) (p := s.g i) ⟨i, hi, rfl⟩
  have h4 := textS_len (setG s.g (s.g i))
  simp only [lineP, lineS, List.forall_mem_cons]
  exact ⟨Prt.sok (by decide) (by decide), Prt.nok h1.1 (by show s.ow i ≤ _; omega), Prt.sok (by decide) (by decide), Prt.nok h2.1 h2.2, Prt.sok (by decide) (by decide), Prt.sok this h4, fun _ h => nomatch h⟩
theorem lineH_ok {s : Stt} (r : Rt s) : GL (lineH s) := by
  obtain ⟨a1, a2⟩ := r.id; obtain ⟨b1, b2⟩ := r.master; obtain ⟨c1, c2⟩ := r.cur; obtain ⟨d1, d2⟩ := r.vote; obtain ⟨e1, e2⟩ := r.cfg
  refine ⟨?_, (by show 10 ≤ 10; decide)⟩
  simp only [lineH, List.forall_mem_cons]
  exact ⟨Prt.sok (by decide) (by decide), Prt.nok (by omega) (by omega), Prt.sok (by decide) (by decide), Prt.nok (by omega) (by omega), Prt.sok (by decide) (by decide), Prt.nok (by omega) (by omega), Prt.sok (by decide) (by decide), Prt.nok (by omega) (by omega), Prt.sok (by decide) (by decide), Prt.nok (by omega) (by omega), fun _ h => nomatch h⟩
theorem lineK_ok {s : Stt} (r : Rt s) {k : Kn} (h : k ∈ s.known) : GL (lineK k) := by
  obtain ⟨h1, h2, h3, h4⟩ := r.known k h
  refine ⟨?_, (by show 6 ≤ 10; decide)⟩
  simp only [lineK, List.forall_mem_cons]
  exact ⟨Prt.sok (by decide) (by decide), Prt.nok (by omega) (by omega), Prt.sok (by decide) (by decide), Prt.nok (by omega) (by omega), Prt.sok (by decide) (by decide), Prt.nok (by omega) (by omega), fun _ h => nomatch h⟩
theorem all_ok {s : Stt} (r : Rt s) : ∀ ps ∈ allL s, GL ps := by
  rw [allL_eq]
  intro ps hps
  rcases List.mem_cons.1 hps with rfl | hps
  · exact lineH_ok r
  rcases List.mem_append.1 hps with hps | hps
  · obtain ⟨k, hk, rfl⟩ := List.mem_map.1 hps
    exact lineK_ok r hk
  · obtain ⟨p, hp, rfl⟩ := List.mem_map.1 hps
    exact lineP_ok r (mem_pairsG.1 hp).2
theorem pairs_len (g : Nat → Int × Int) : (pairsG g).length ≤ 64 := by
  rw [← count_first]
  exact Nat.le_trans (List.length_filter_le _ _) (by rw [List.length_range]; exact Nat.le_refl _)
theorem all_len {s : Stt} (r : Rt s) : (allL s).length ≤ 80 := by
  have := pairs_len s.g
  have := r.len
  rw [allL_eq, List.length_cons, List.length_append, List.length_map, List.length_map]; omega
end Go.Proofs.YtcomjodfkcnjhaaGreatDoor

/- The walk of Text. -/

namespace Go.Proofs.YtcomjodfkcnjhaaGreatDoor
open Go.Ax
open Cel (c)
set_option linter.unusedSimpArgs false
set_option linter.unusedVariables false
set_option maxRecDepth 20000
open Cel (c)

theorem getI_putI (v : AV) (n : Int) : ∀ (es : List (Int × AV)) (m : Int), getI (putI es n v) m = if m = n then some v else getI es m
  | [], m => by
    simp only [putI, getI]
    by_cases h : n = m
    · rw [if_pos h, if_pos h.symm]
    · rw [if_neg h, if_neg fun e : m = n => h e.symm]
  | p :: r, m => by
    rw [putI]
    by_cases hp : p.1 = n
    · rw [if_pos hp, getI, getI]
      by_cases h : m = n
      · rw [if_pos h, if_pos h.symm]
      · rw [if_neg h, if_neg fun e => h e.symm, if_neg fun e => h (e.symm.trans hp)]
    · rw [if_neg hp, getI, getI, getI_putI v n r m]
      by_cases h1 : p.1 = m
      · rw [if_pos h1, if_neg fun e => hp (h1.trans e), if_pos h1]
      · rw [if_neg h1, if_neg h1]
def MapIs (es : List (Int × AV)) (f : Int → BitVec 64) : Prop := ∀ e, (getI es e).getD (u64A 0#64) = u64A (f e)
def fB (ep : Nat → Int) (ms : List Nat) (e : Int) : BitVec 64 := ms.foldl (fun b i => if ep i = e then b ||| (1#64 <<< i) else b) 0#64
theorem fB_snoc (ep : Nat → Int) (ms : List Nat) (i : Nat) (e : Int) : fB ep (ms ++ [i]) e = if ep i = e then fB ep ms e ||| (1#64 <<< i) else fB ep ms e := by
  rw [fB, List.foldl_append]; rfl
theorem fold_bits (p : Nat → Prop) [DecidablePred p] : ∀ (ms : List Nat) (b : BitVec 64) (j : Nat), j < 64 → (ms.foldl (fun b i => if p i then b ||| (1#64 <<< i) else b) b).getLsbD j = (b.getLsbD j || decide (j ∈ ms ∧ p j))
  | [], b, j, _ => by simp
  | i :: ms, b, j, hj => by
    rw [List.foldl_cons, fold_bits p ms _ j hj]
    by_cases hp : p i
    · rw [if_pos hp, BitVec.getLsbD_or, one_bit i j, decide_eq_true hj, Bool.true_and, Bool.or_assoc]
      congr 1
      rw [Bool.eq_iff_iff]
      simp only [Bool.or_eq_true, decide_eq_true_eq, List.mem_cons]
      constructor
      · rintro (h | ⟨h, h2⟩)
        · subst h; exact ⟨.inl rfl, hp⟩
        · exact ⟨.inr h, h2⟩
      · rintro ⟨h | h, h2⟩
        · exact .inl h
        · exact .inr ⟨h, h2⟩
    · rw [if_neg hp]
      congr 1
      rw [Bool.eq_iff_iff]
      simp only [decide_eq_true_eq, List.mem_cons]
      constructor
      · rintro ⟨h, h2⟩; exact ⟨.inr h, h2⟩
      · rintro ⟨h | h, h2⟩
        · subst h; exact absurd h2 hp
        · exact ⟨h, h2⟩
theorem fB_get (ep : Nat → Int) (ms : List Nat) (e : Int) (j : Nat) (hj : j < 64) : (fB ep ms e).getLsbD j = decide (j ∈ ms ∧ ep j = e) := by
  rw [fB, fold_bits (fun i => ep i = e) ms _ j hj]; simp
theorem fB_ne {ep : Nat → Int} {ms : List Nat} (hm : ∀ i ∈ ms, i < 64) (e : Int) : fB ep ms e ≠ 0#64 ↔ ∃ i ∈ ms, ep i = e := by
  constructor
  · intro h
    rcases Classical.em (∃ i ∈ ms, ep i = e) with h1 | h1
    · exact h1
    · refine absurd (BitVec.eq_of_getLsbD_eq fun j hj => ?_) h
      rw [fB_get ep ms e j hj, BitVec.getLsbD_zero, decide_eq_false_iff_not]
      exact fun ⟨a, b⟩ => h1 ⟨j, a, b⟩
  · rintro ⟨i, hi, h⟩ h0
    have := fB_get ep ms e i (hm i hi)
    rw [h0, BitVec.getLsbD_zero, decide_eq_true ⟨hi, h⟩] at this
    cases this
def msW (s : Stt) (w : Int) : List Nat := memN (ofW s w)
theorem ms_mem {s : Stt} {w : Int} {i : Nat} : i ∈ msW s w ↔ i < 64 ∧ s.ow i = w := by
  rw [msW, memN, List.mem_filter, List.mem_range, ofW, bitsF_get _ 64 i (Nat.le_refl _), Bool.and_eq_true, decide_eq_true_eq, decide_eq_true_eq]
  exact ⟨fun ⟨a, _, b⟩ => ⟨a, b⟩, fun ⟨a, b⟩ => ⟨a, a, b⟩⟩
theorem ms_set (s : Stt) (w e : Int) : fB s.ep (msW s w) e = setG s.g (w, e) := by
  refine BitVec.eq_of_getLsbD_eq fun j hj => ?_
  rw [fB_get _ _ _ _ hj, setG_get, decide_eq_true hj, Bool.true_and]
  refine decide_eq_decide.2 ?_
  rw [ms_mem]
  exact ⟨fun ⟨⟨_, a⟩, b⟩ => Prod.ext a b, fun h => ⟨⟨hj, congrArg Prod.fst h⟩, congrArg Prod.snd h⟩⟩
theorem eps_sort {s : Stt} {w : Int} {L : List Int} (hn : L.Nodup) (hL : ∀ e, e ∈ L ↔ fB s.ep (msW s w) e ≠ 0#64) : sortI L = epochsG s.g w := by
  rw [sortI_uniq hn]
  refine rise_ext (uniqU_rise _) (uniqU_rise _) fun e => ?_
  rw [mem_uniqU, hL, fB_ne fun i hi => (ms_mem.1 hi).1, mem_epochsG]
  constructor
  · rintro ⟨i, hi, h⟩
    obtain ⟨a, b⟩ := ms_mem.1 hi
    exact ⟨i, a, Prod.ext b h⟩
  · rintro ⟨i, hi, h⟩
    exact ⟨i, ms_mem.2 ⟨hi, congrArg Prod.fst h⟩, congrArg Prod.snd h⟩
theorem Stt.Ok.cE {s : Stt} (h : s.Ok) {y : AV} {i : Nat} (hi : i < 64) : (s.cs y)[70 + i * 1]? = some (.v (.int .i64 (s.ep i))) := by
  rw [show 70 + i * 1 = (64 + i * 1) + 6 by omega]
  exact h.tE hi
structure TX (H : AHeap) (s : Stt) (H1 : AHeap) (y : AV) (l : List UInt8) : Prop where
  bd : BdAt H1 (H.next + 1) y l
  x : H1.get H.next = some (.cells 34 (s.cs (vecA s.known)))
  k : Keep H H1
theorem TX.lt {H : AHeap} {s : Stt} {H1 : AHeap} {y : AV} {l : List UInt8} (h : TX H s H1 y l) : H.next + 1 < H1.next := h.bd.1
theorem TX.lab {H : AHeap} {s : Stt} {H1 : AHeap} {y : AV} {l : List UInt8} (h : TX H s H1 y l) {q : Nat} (hq : H1.next ≤ q ∨ q ≤ H.next + 1) : lab y ≠ some q :=
  hq.elim (fun hq => h.bd.2.2.lab_new hq) fun hq => h.bd.2.2.lab_ne (by omega)
theorem TX.write {H : AHeap} {s : Stt} {H1 H2 : AHeap} {y y' : AV} {l l' : List UInt8} (h : TX H s H1 y l) (hb : BdAt H2 (H.next + 1) y' l') (hs : BSt (H.next + 1) H1 y H2 y') : TX H s H2 y' l' := by
  have hlt := h.lt
  refine ⟨hb, (hs.keep _ (by omega) (by omega) (h.lab (.inr (by omega)))).trans h.x, Nat.le_trans h.k.1 hs.nx, fun q hq => ?_⟩
  exact (hs.keep q (by omega) (by omega) (h.lab (.inr (by omega)))).trans (h.k.2 q hq)
theorem TX.more {H : AHeap} {s : Stt} {H1 H2 : AHeap} {y : AV} {l : List UInt8} (h : TX H s H1 y l) (hn : H1.next ≤ H2.next) (hk : ∀ q, q < H1.next → H2.get q = H1.get q) : TX H s H2 y l := by
  have hlt := h.lt
  exact ⟨h.bd.more hn hk, (hk _ (by omega)).trans h.x, Nat.le_trans h.k.1 hn, fun q hq => (hk q (by omega)).trans (h.k.2 q hq)⟩
end Go.Proofs.YtcomjodfkcnjhaaGreatDoor

/- The walk of Text, joined. -/

namespace Go.Proofs.YtcomjodfkcnjhaaGreatDoor
open Go.Ax
open Cel (c)
theorem qN81 {p : Prop} (h : p := by (conv => lhs; whnf); all_goals exact rfl) : p := h
theorem qN82 {p : Prop} (h : p := by first | omega | (simp only [za, zb, zc, zd]; omega)) : p := h
theorem qN83 {p : Prop} (h : p := by repeat' (first | exact Keep.refl _ | apply Keep.new | apply Keep.set | apply Keep.del | (first | omega | (simp only [za, zb, zc]; omega)))) : p := h
theorem qN84 {p : Prop} (h : p := by exact AStepD.alloc tok rfl rfl) : p := h
theorem qN85 {p : Prop} (h : p := by simp only [Nat.reduceAdd]; exact rfl) : p := h
theorem qN86 {p : Prop} (h : p := by first | with_reducible assumption | exact rfl) : p := h
theorem qN87 {p : Prop} (h : p := by simp only [List.flatMap_cons, List.flatMap_nil, cells_v, cells_any, cells_ptr, cells_ip, cells_sl, cells_vec, cells_map, cells_func, cells_agg, cells_iface, List.cons_append, List.nil_append, List.append_nil]; all_goals exact rfl) : p := h
theorem qN88 {p : Prop} (h : p := by first | with_reducible assumption | exact Cel.one _ | exact flat_ones _ | exact ones_nil | (simp only [List.forall_mem_cons, List.not_mem_nil, false_implies, implies_true, and_true, one_v, one_ptr, one_ip, one_sl, one_slc, one_vec, one_map, one_func, one_iface, Value.oneCell', *]; done) | (simp [AV.one, Value.oneCell', *]; done)) : p := h
theorem qN89 {p : Prop} (h : p := by first | exact IsSl.vec | exact IsSl.sl | exact IsSl.slc | exact IsSl.nil | with_reducible assumption) : p := h
theorem qN810 {p : Prop} (h : p := by (conv => lhs; whnf); all_goals first | exact rfl | (simp; done) | (simp; omega)) : p := h
theorem qN811 {p : Prop} (h : p := by exact AStepD.lss rfl rfl rfl) : p := h
theorem qN812 {p : Prop} (h : p := by first | exact rfl | exact (Int.toNat_of_nonneg (by omega)).symm) : p := h
theorem qN813 {p : Prop} (h : p := by first | omega | (simp; done) | (simp; omega) | (simp only [over, List.length_append, List.length_take, List.length_drop, *]; omega) | (simp_all; done) | (simp_all; omega)) : p := h
theorem qN814 {p : Prop} (h : p := by first | (simp only [Nat.zero_add, Nat.zero_mul, Nat.sub_zero, Nat.add_zero]; exact rfl) | exact rfl) : p := h
theorem qN815 {p : Prop} (h : p := by first | exact Nat.le_of_ble_eq_true rfl | (simp; done) | (simp; omega) | (simp_all; omega)) : p := h
theorem qN816 {p : Prop} (h : p := by first | with_reducible assumption | (simp only [List.take_succ_cons, List.take_zero, List.drop_succ_cons, List.drop_zero]; exact rfl) | exact rfl) : p := h
theorem qN817 {p : Prop} (h : p := by first | ((with_reducible refine over_all ?_); exact rfl) | (simp only [over, List.take_succ_cons, List.take_zero, List.drop_succ_cons, List.drop_zero, List.length_cons, List.length_nil, List.nil_append, List.cons_append, Nat.reduceAdd, Nat.zero_add, List.drop_nil, List.append_nil]; exact rfl) | conv => lhs; whnf) : p := h
theorem qN818 {p : Prop} (h : p := by (try simp only [za, zb, zc, zd, ne_eq]); omega) : p := h
theorem qN819 {p : Prop} (h : p := by exact AStepD.assign' rfl qN81) : p := h
theorem qN820 {p : Prop} (h : p := by first | with_reducible assumption | (simp (disch := (first | omega | (exact Lst.lab_ne (by with_reducible assumption) qN82) | (exact Lst.lab_new (by with_reducible assumption) qN82) | (refine id ?_; simp only [za, zb, zc, zd]; done) | (simp only [za, zb, zc, zd]; omega))) only [z1, z2, z3, z4, z5, z6, z7, z8, z9, ne_eq, *]; done) | (simp (disch := (first | omega | (exact Lst.lab_ne (by with_reducible assumption) qN82) | (exact Lst.lab_new (by with_reducible assumption) qN82) | (refine id ?_; simp only [za, zb, zc, zd]; done) | (simp only [za, zb, zc, zd]; omega))) only [z1, z2, z3, z4, z5, z6, z7, z8, z9, ne_eq, *]; exact rfl)) : p := h
theorem qN821 {p : Prop} (h : p := by exact SD.s rfl rfl rfl qN84) : p := h
theorem qN822 {p : Prop} (h : p := by exact AStepD.makeIface tok rfl qN81 rfl rfl) : p := h
theorem qN823 {p : Prop} (h : p := by first | exact Nat.zero_add 0 | exact (show _ + 0 = _ from qN85) | exact (show _ + 0 = _ + 0 from rfl) | exact rfl) : p := h
theorem qN824 {p : Prop} (h : p := by first | exact Nat.zero_add 1 | exact (show _ + 1 = _ from qN85) | exact (show _ + 1 = _ + 1 from rfl) | exact rfl) : p := h
theorem qN825 {p : Prop} (h : p := by first | exact Nat.zero_add 2 | exact (show _ + 2 = _ from qN85) | exact (show _ + 2 = _ + 2 from rfl) | exact rfl) : p := h
theorem qN826 {p : Prop} (h : p := by first | exact AStepD.fieldAddr' tok rfl rfl rfl rfl rfl rfl rfl (by first | exact Nat.zero_add 5 | exact (show _ + 5 = _ from qN85) | exact (show _ + 5 = _ + 5 from rfl) | exact rfl) | exact AStepD.fieldAddr_ip' tok rfl rfl rfl rfl rfl rfl rfl (show List.drop 5 _ = _ from rfl)) : p := h
theorem qN827 {p : Prop} (h : p := by first | exact AStepD.len_str tok rfl rfl rfl rfl | exact AStepD.len_sl tok rfl qN81 qN89 rfl rfl | exact AStepD.len_arr tok rfl rfl rfl) : p := h
theorem qN828 {p : Prop} (h : p := by exact AStepD.move' rfl qN81) : p := h
theorem qN829 {p : Prop} (h : p := by repeat' (first | exact SubT.nil _ | refine SubT.cons_eq qN810 ?_)) : p := h
theorem qN830 {p : Prop} (h : p := by exact SD.s rfl rfl rfl qN811) : p := h
theorem qN831 {p : Prop} (h : p := by first | exact AStepD.indexAddr_flat tok rfl rfl rfl rfl rfl rfl rfl (show _ = 3 from rfl) rfl qN812 qN813 | exact AStepD.indexAddr_vec' tok rfl rfl rfl rfl rfl rfl (show _ = 3 from rfl) qN812 qN813 | exact AStepD.indexAddr_sl' tok rfl rfl rfl rfl rfl rfl (show _ = 3 from rfl) qN812 qN813 qN814 | exact AStepD.indexAddr_arr' tok rfl rfl rfl rfl rfl rfl (show _ = 3 from rfl) qN812 qN813 qN814) : p := h
theorem qN832 {p : Prop} (h : p := by simp (disch := (first | omega | (exact Lst.lab_ne (by with_reducible assumption) qN82) | (exact Lst.lab_new (by with_reducible assumption) qN82) | (refine id ?_; simp only [za, zb, zc, zd]; done) | (simp only [za, zb, zc, zd]; omega))) only [z1, z2, z3, z4, z5, z6, z7, z8, z9, ne_eq]) : p := h
theorem qN833 {p : Prop} (h : p := by first | exact Nat.zero_add 6 | exact (show _ + 6 = _ from qN85) | exact (show _ + 6 = _ + 6 from rfl) | exact rfl) : p := h
theorem qN834 {p : Prop} (h : p := by first | exact AStepD.indexAddr_flat tok rfl rfl rfl rfl rfl rfl rfl (show _ = 1 from rfl) rfl qN812 qN813 | exact AStepD.indexAddr_vec' tok rfl rfl rfl rfl rfl rfl (show _ = 1 from rfl) qN812 qN813 | exact AStepD.indexAddr_sl' tok rfl rfl rfl rfl rfl rfl (show _ = 1 from rfl) qN812 qN813 qN814 | exact AStepD.indexAddr_arr' tok rfl rfl rfl rfl rfl rfl (show _ = 1 from rfl) qN812 qN813 qN814) : p := h
theorem qN835 {p : Prop} (h : p := by first | exact AStepD.fieldAddr' tok rfl rfl rfl rfl rfl rfl rfl (by first | exact Nat.zero_add 64 | exact (show _ + 64 = _ from qN85) | exact (show _ + 64 = _ + 64 from rfl) | exact rfl) | exact AStepD.fieldAddr_ip' tok rfl rfl rfl rfl rfl rfl rfl (show List.drop 64 _ = _ from rfl)) : p := h
theorem qN836 {p : Prop} (h : p := by exact SD.s rfl rfl rfl qN819) : p := h
theorem qN837 {p : Prop} (h : p := by exact SD.s rfl rfl rfl qN822) : p := h
theorem qN838 {p : Prop} (h : p := by first | exact AStepD.fieldAddr' tok rfl rfl rfl rfl rfl rfl rfl qN823 | exact AStepD.fieldAddr_ip' tok rfl rfl rfl rfl rfl rfl rfl List.drop_zero) : p := h
theorem qN839 {p : Prop} (h : p := by first | exact AStepD.load_one tok rfl rfl rfl rfl qN820 rfl qN86 | exact AStepD.load_one_ip tok rfl rfl rfl rfl rfl qN86) : p := h
theorem qN840 {p : Prop} (h : p := by first | exact AStepD.fieldAddr' tok rfl rfl rfl rfl rfl rfl rfl qN824 | exact AStepD.fieldAddr_ip' tok rfl rfl rfl rfl rfl rfl rfl (show List.drop 1 _ = _ from rfl)) : p := h
theorem qN841 {p : Prop} (h : p := by first | exact AStepD.fieldAddr' tok rfl rfl rfl rfl rfl rfl rfl qN825 | exact AStepD.fieldAddr_ip' tok rfl rfl rfl rfl rfl rfl rfl (show List.drop 2 _ = _ from rfl)) : p := h
theorem qN842 {p : Prop} (h : p := by exact SD.s rfl rfl rfl qN827) : p := h
theorem qN843 {p : Prop} (h : p := by exact SD.s rfl rfl rfl qN828) : p := h
theorem qN844 {p : Prop} (h : p := by first | exact AStepD.load_cel_ip tok rfl rfl rfl rfl (show _ = 3 from rfl) rfl | exact AStepD.load_agg tok rfl rfl rfl qN820 rfl (show _ = 3 from rfl) qN815 qN816 | exact AStepD.load_agg_ip tok rfl rfl rfl rfl (show _ = 3 from rfl) qN815 qN816) : p := h
theorem qN845 {p : Prop} (h : p := by first | exact AStepD.fieldAddr' tok rfl rfl rfl rfl rfl rfl rfl qN833 | exact AStepD.fieldAddr_ip' tok rfl rfl rfl rfl rfl rfl rfl (show List.drop 6 _ = _ from rfl)) : p := h
theorem qN846 {p : Prop} (h : p := by exact SD.s rfl rfl rfl qN834) : p := h
theorem qN847 {p : Prop} (h : p := by exact SD.s rfl rfl rfl qN838) : p := h
theorem qN848 {p : Prop} (h : p := by exact SD.s rfl rfl rfl qN839) : p := h
theorem qN849 {p : Prop} (h : p := by exact SD.s rfl rfl rfl qN840) : p := h
theorem qN850 {p : Prop} (h : p := by exact SD.s rfl rfl rfl qN841) : p := h
theorem qN851 {p : Prop} (h : p := by exact SD.s rfl rfl rfl qN845) : p := h
set_option linter.unusedSimpArgs false
set_option linter.unusedVariables false
set_option maxRecDepth 20000
open Cel (c)

set_option maxHeartbeats 8000000 in
theorem statetext_calls (H : AHeap) (s : Stt) (h : s.Ok) : ACalls Tryz.prog 11 [stA s] H (fun r H' => r = .tup [strA (if rightB s then docT s else []), .v (.int .i64 (if rightB s then 0 else 10))] ∧ H' = H) := by
  refine ACalls.quiet_keep ?_ (.tup (by simp only [List.forall_mem_cons]; exact ⟨.v _, .v _, fun _ h => absurd h List.not_mem_nil⟩))
  have hcl : (s.cs (vecA s.known)).length = s.tab.length + 6 := rfl
  have hft := h.ft
  refine ACalls.of_body tok Tryz.func11 rfl Tryz.ntmps11 (Nat.le_of_ble_eq_true rfl) (fun base => ?_)
  refine rg fun K hK => ?_
  refine st (by exact SD.s rfl rfl rfl (by exact AStepD.box (cs := s.cs (vecA s.known)) rfl rfl (s.cs_one rfl))) <| st qN836 <| st qN836 <| nt (hK _ _ ?_)
  clear hK K
  refine AW.seq_k (fun K1 hK1 => ?_)
  refine rg fun K hK => ?_
  refine st (by exact SD.s rfl rfl rfl (by exact AStepD.load_agg (cs := s.cs (vecA s.known)) (zs := s.cs (vecA s.known)) tok rfl rfl rfl qN820 rfl (show _ = 134 from rfl) (by rw [hcl]; omega) (by rw [List.drop_zero]; exact List.take_of_length_le (by rw [hcl]; omega)))) <| st (by exact SD.s rfl rfl rfl (by exact AStepD.callf rfl en20 rfl (right_calls _ s h))) <| st (by exact SD.s rfl rfl rfl (by first | exact AStepD.not rfl rfl | exact AStepD.neg rfl rfl (by first | exact IntWalk.i64_in _ (by omega) | exact IntWalk.i64_in _ (by simp only [Bool.or_eq_true, Bool.and_eq_true, Bool.or_eq_false_iff, Bool.and_eq_false_iff, Bool.not_eq_true', Bool.not_eq_false', decide_eq_true_eq, decide_eq_false_iff_not, Int.not_lt, Int.not_le, beq_iff_eq] at *; omega) | exact rfl))) <| nt (hK _ _ ?_)
  clear hK K
  cases hr : rightB s with
  | false =>
    refine AW.cond_true rfl rfl ?_
    refine rg fun K hK => ?_
    refine st qN836 <| st qN836 <| nt (hK _ _ ?_)
    clear hK K
    exact AW.ret (RetQ.mk (.inr rfl) (retA_tmp rfl qN81 (retA_tmp rfl qN81 retA_nil)) ⟨rfl, qN83⟩)
  | true =>
  refine AW.cond_false rfl rfl (AW.skip ?_)
  refine hK1 _ _ ?_; try clear hK1 K1
  have r := right_rt hr
  have hall := all_ok r
  have hlen := all_len r
  refine rg fun K hK => ?_
  refine st qN821 <| nt (hK _ _ ?_)
  clear hK K
  have t0 : TX H s (((H.new (.cells 34 (s.cs (vecA s.known)))).new (.cells 61 (AV.ofV (tt 61).zero)))) (.v (.slice none 0 0)) [] := ⟨⟨by simp only [zc]; omega, ⟨_, AHeap.get_new_eq _ _ rfl, .inl rfl⟩, .nil⟩, qN820, qN83⟩
  refine rg fun K hK => ?_
  refine st qN837 <| st qN847 <| st qN848 <| st qN837 <| st qN837 <| st qN849 <| st qN848 <| st qN837 <| st qN837 <| st qN850 <| st qN847 <| st qN848 <| st qN837 <| st qN837 <| st qN850 <| st qN849 <| st qN848 <| st qN837 <| st qN837 <| st qN850 <| st qN850 <| st qN848 <| st qN837 <| st (by exact SD.s rfl rfl rfl (by exact AStepD.vec_flat (l := (lineH s)) (AStepD.buildSlice_seq tok rfl rfl rfl rfl (show _ = 1 from rfl) (map_p qN81 (map_p qN81 (map_p qN81 (map_p qN81 (map_p qN81 (map_p qN81 (map_p qN81 (map_p qN81 (map_p qN81 (map_p qN81 map_n)))))))))) rfl (by decide) (by decide) rfl qN87 qN88) rfl rfl rfl)) <| ?_
  refine AL.call rfl rfl rfl (AStep.callf rfl en24 (line_calls _ _ _ _ (lineH s) t0.bd (fun p hp => ((lineH_ok r).1 p hp).1) (by show 10 ≤ 20; decide) (by decide))) ?_; rintro _ H1 ⟨rfl, y1, hb1, hs1⟩
  refine nt (hK _ _ ?_)
  clear hK K
  have t1 := t0.write hb1 hs1
  rw [List.nil_append, ← docL_one] at t1
  clear t0 hb1 hs1
  have hkl := r.len
  have hA : ∀ i, (docL (lineH s :: (s.known.take i).map lineK)).length ≤ 400000 := fun i => by
    have := docL_len (ls := lineH s :: (s.known.take i).map lineK) fun ps hps => by
      rcases List.mem_cons.1 hps with rfl | hps
      · exact lineH_ok r
      · obtain ⟨k, hk, rfl⟩ := List.mem_map.1 hps
        exact lineK_ok r (List.mem_of_mem_take hk)
    rw [List.length_cons, List.length_map, List.length_take] at this
    omega
  refine AW.seq_k (fun K2 hK2 => ?_)
  have hx1 := t1.x
  refine rg fun K hK => ?_
  refine st (by exact SD.s rfl rfl rfl qN826) <| st qN848 <| st qN842 <| st qN843 <| nt (hK _ _ ?_)
  clear hK K
  refine AW.block ?_
  refine AW.loop_at (ι := Nat) (fun i => [(47, .v (.int .i64 (i : Nat))), (46, .v (.int .i64 (s.known.length : Nat))), (45, vecA s.known), (4, .ptr (H.next + 1) 0), (1, .ptr H.next 0)])
    (fun i H' => i ≤ s.known.length ∧ ∃ y, TX H s H' y (docL (lineH s :: (s.known.take i).map lineK))) (fun i => s.known.length - i) 0 qN829 ⟨Nat.zero_le _, y1, t1⟩ ?_
  clear t1 hx1 y1 H1
  rintro i H2 ⟨hi, y2, t2⟩
  refine rg fun K hK => ?_
  refine st qN830 <| nt (hK _ _ ?_)
  clear hK K
  refine AW.seq_k (fun K3 hK3 => ?_)
  refine AW.cond _ rfl (fun hc => ?_) (fun hc => ?_)
  · (try simp only [Bool.or_eq_true, Bool.and_eq_true, Bool.or_eq_false_iff, Bool.and_eq_false_iff, Bool.not_eq_true', Bool.not_eq_false', decide_eq_true_eq, decide_eq_false_iff_not, Int.not_lt, Int.not_le] at hc)
    have hil : i < s.known.length := by omega
    have hkm := List.getElem_mem hil
    have hnx : docL (lineH s :: (s.known.take (i + 1)).map lineK) = docL (lineH s :: (s.known.take i).map lineK) ++ (jL (lineK s.known[i]) ++ [10]) := by
      rw [take_next _ i hil, List.map_append, ← List.cons_append, docL_append]
      rw [show [s.known[i]].map lineK = [lineK s.known[i]] from rfl, docL_one]
    refine AW.skip ?_
    refine hK3 _ _ ?_; try clear hK3 K3
    refine AW.seq_k (fun K4 hK4 => ?_)
    refine AW.block ?_
    have hlt2 := t2.lt
    refine rg fun K hK => ?_
    refine st (by exact SD.s rfl rfl rfl qN831) <| st (by exact SD.s rfl rfl rfl qN844) <| st qN821 <| st0 (by exact ⟨rfl, rfl, (by exact AStepD.store' tok rfl rfl qN820 qN81 (by first | exact one_cells (by with_reducible assumption) | exact qN81) qN88 rfl qN81 rfl qN815 qN817)⟩) <| nt (hK _ _ ?_)
    clear hK K
    generalize s.known[i] = k at hnx hkm
    have t3 : TX H s ((H2.new (.cells 64 (AV.ofV (tt 64).zero))).set H2.next (.cells 64 (c k))) y2 (docL (lineH s :: (s.known.take i).map lineK)) := t2.more qN818 (fun q hq => qN832)
    refine AW.region ?_
    refine st qN837 <| st qN847 <| st qN848 <| st qN837 <| st qN837 <| st qN849 <| st qN848 <| st qN837 <| st qN837 <| st qN850 <| st qN848 <| st qN837 <| st (by exact SD.s rfl rfl rfl (by exact AStepD.vec_flat (l := (lineK k)) (AStepD.buildSlice_seq tok rfl rfl rfl rfl (show _ = 1 from rfl) (map_p qN81 (map_p qN81 (map_p qN81 (map_p qN81 (map_p qN81 (map_p qN81 map_n)))))) rfl (by decide) (by decide) rfl qN87 qN88) rfl rfl rfl)) <| ?_
    refine AL.call rfl rfl rfl (AStep.callf rfl en24 (line_calls _ _ _ _ (lineK k) t3.bd (fun p hp => ((lineK_ok r hkm).1 p hp).1) (by show 6 ≤ 20; decide) (by have := hA i; omega))) ?_; rintro _ H4 ⟨rfl, y4, hb4, hs4⟩
    refine AL.nil ?_
    have t4 := t3.write hb4 hs4
    rw [← hnx] at t4
    refine hK4 _ _ ?_; try clear hK4 K4
    refine AW.region ?_
    refine st (by exact SD.s rfl rfl rfl (by first | exact AStepD.add rfl rfl rfl (by first | exact IntWalk.i64_in _ (by omega) | exact IntWalk.i64_in _ (by simp only [Bool.or_eq_true, Bool.and_eq_true, Bool.or_eq_false_iff, Bool.and_eq_false_iff, Bool.not_eq_true', Bool.not_eq_false', decide_eq_true_eq, decide_eq_false_iff_not, Int.not_lt, Int.not_le, beq_iff_eq] at *; omega) | exact rfl) | exact AStepD.str_add rfl rfl rfl (by omega))) <| st qN843 <| AL.nil ?_
    exact ⟨i + 1, by omega, qN829, hil, y4, t4⟩
  (try simp only [Bool.or_eq_true, Bool.and_eq_true, Bool.or_eq_false_iff, Bool.and_eq_false_iff, Bool.not_eq_true', Bool.not_eq_false', decide_eq_true_eq, decide_eq_false_iff_not, Int.not_lt, Int.not_le] at hc)
  obtain rfl : i = s.known.length := by omega
  rw [List.take_length] at t2
  have hA2 := hA s.known.length
  rw [List.take_length] at hA2
  clear hA
  refine AW.exit ?_
  refine hK2 _ _ ?_; try clear hK2 K2 hK3 K3
  have hoe := owners_eq h
  have hpl := pairs_len s.g
  have hol : (ownersG s.g).length ≤ 64 := by
    have h1 : (ownersG s.g).length ≤ (pairsG s.g).length := by
      rw [pairsG, List.length_flatMap]
      have : ∀ l : List Int, (∀ w ∈ l, epochsG s.g w ≠ []) → l.length ≤ (l.map fun w => ((epochsG s.g w).map fun e => (w, e)).length).sum := by
        intro l
        induction l with
        | nil => intro _; exact Nat.le_refl _
        | cons w l ih =>
          intro hw
          have h1 := ih fun v hv => hw v (List.mem_cons_of_mem _ hv)
          have h2 := List.length_pos_iff.2 (hw w (List.mem_cons_self ..))
          rw [List.length_cons, List.map_cons, List.sum_cons, List.length_map]; omega
      refine this _ fun w hw => ?_
      obtain ⟨_, i, hi, e⟩ := mem_ownersG.1 hw
      exact List.ne_nil_of_mem (mem_epochsG.2 ⟨i, hi, Prod.ext e (Eq.refl (s.ep i))⟩)
    omega
  obtain ⟨A, hAe⟩ : ∃ A, A = lineH s :: s.known.map lineK := ⟨_, rfl⟩
  rw [← hAe] at t2 hA2
  have hB : ∀ (j k : Nat) (w : Int), j ≤ (ownersG s.g).length → (hw : ∀ hj : j < (ownersG s.g).length, w = (ownersG s.g)[j]) → (j = (ownersG s.g).length → k = 0) → (docL (A ++ (((ownersG s.g).take j).flatMap (linesW s.g) ++ ((epochsG s.g w).take k).map fun e => lineP s.g (w, e)))).length ≤ 800000 := by
    intro j k w hj hw h0
    have hsub : (((ownersG s.g).take j).flatMap (linesW s.g) ++ ((epochsG s.g w).take k).map fun e => lineP s.g (w, e)).Sublist ((ownersG s.g).flatMap (linesW s.g)) := by
      rcases Nat.lt_or_ge j (ownersG s.g).length with hjl | hjl
      · have e : (ownersG s.g).flatMap (linesW s.g) = ((ownersG s.g).take j).flatMap (linesW s.g) ++ (linesW s.g (ownersG s.g)[j] ++ ((ownersG s.g).drop (j + 1)).flatMap (linesW s.g)) := by
          conv => lhs; rw [← List.take_append_drop j (ownersG s.g), List.flatMap_append, List.drop_eq_getElem_cons hjl, List.flatMap_cons]
        rw [e, hw hjl]
        refine List.Sublist.append (List.Sublist.refl _) ?_
        refine List.Sublist.trans ?_ (List.sublist_append_left ..)
        exact (List.take_sublist k _).map _
      · rw [h0 (by omega), List.take_zero, List.map_nil, List.append_nil, List.take_of_length_le (by omega)]
        exact List.Sublist.refl _
    have hmem : ∀ ps ∈ (ownersG s.g).flatMap (linesW s.g), ps ∈ allL s := fun ps hps => List.mem_cons_of_mem _ (List.mem_append_right _ hps)
    have h1 := docL_len (ls := ((ownersG s.g).take j).flatMap (linesW s.g) ++ ((epochsG s.g w).take k).map fun e => lineP s.g (w, e)) fun ps hps => hall ps (hmem ps (hsub.subset hps))
    have h2 := hsub.length_le
    have h3 : ((ownersG s.g).flatMap (linesW s.g)).length ≤ 64 := by
      have : ((pairsG s.g).map (lineP s.g)).length = ((ownersG s.g).flatMap (linesW s.g)).length := by
        have e := allL_eq s
        rw [allL, List.cons.injEq] at e
        exact (congrArg List.length (List.append_cancel_left e.2)).symm
      rw [← this, List.length_map]; exact hpl
    rw [docL_append, List.length_append]
    omega
  refine AW.seq_k (fun K2 hK2 => ?_)
  have hx2 := t2.x
  refine rg fun K hK => ?_
  refine st qN851 <| st (by exact SD.s rfl rfl rfl (by exact AStepD.load_agg (cs := s.cs (vecA s.known)) tok rfl rfl rfl qN820 rfl (show _ = 128 from rfl) (by rw [hcl]; omega) h.takeT)) <| st (by exact SD.s rfl rfl rfl (by exact AStepD.callf rfl en25 rfl (owners_calls _ s h))) <| st qN842 <| st qN843 <| nt (hK _ _ ?_)
  clear hK K
  rw [hoe]
  clear hx2
  refine AW.block ?_
  refine AW.loop_at (ι := Nat) (fun j => [(70, .v (.int .i64 (j : Nat))), (69, .v (.int .i64 ((ownersG s.g).length : Nat))), (68, vecA (ownersG s.g)), (4, .ptr (H.next + 1) 0), (1, .ptr H.next 0)])
    (fun j H' => j ≤ (ownersG s.g).length ∧ ∃ y, TX H s H' y (docL (A ++ ((ownersG s.g).take j).flatMap (linesW s.g)))) (fun j => (ownersG s.g).length - j) 0 qN829 ⟨Nat.zero_le _, y2, by rw [List.take_zero, List.flatMap_nil, List.append_nil]; exact t2⟩ ?_
  clear t2 y2 H2 hc
  rintro j H2 ⟨hj, y2, t2⟩
  refine rg fun K hK => ?_
  refine st qN830 <| nt (hK _ _ ?_)
  clear hK K
  refine AW.seq_k (fun K3 hK3 => ?_)
  refine AW.cond _ rfl (fun hc => ?_) (fun hc => ?_)
  · (try simp only [Bool.or_eq_true, Bool.and_eq_true, Bool.or_eq_false_iff, Bool.and_eq_false_iff, Bool.not_eq_true', Bool.not_eq_false', decide_eq_true_eq, decide_eq_false_iff_not, Int.not_lt, Int.not_le] at hc)
    have hjl : j < (ownersG s.g).length := by omega
    refine AW.skip ?_
    refine hK3 _ _ ?_; try clear hK3 K3
    refine AW.seq_k (fun K4 hK4 => ?_)
    refine AW.block ?_
    refine rg fun K hK => ?_
    refine st qN846 <| st qN848 <| st qN836 <| nt (hK _ _ ?_)
    clear hK K
    obtain ⟨w, hw⟩ : ∃ w, w = (ownersG s.g)[j] := ⟨_, rfl⟩
    rw [← hw]
    have hwm : w ∈ ownersG s.g := hw ▸ List.getElem_mem hjl
    have hBk : ∀ k, (docL (A ++ (((ownersG s.g).take j).flatMap (linesW s.g) ++ ((epochsG s.g w).take k).map fun e => lineP s.g (w, e)))).length ≤ 800000 := fun k => hB j k w hj (fun _ => hw) (fun e => by omega)
    have hnx : docL (A ++ ((ownersG s.g).take (j + 1)).flatMap (linesW s.g)) = docL (A ++ ((ownersG s.g).take j).flatMap (linesW s.g)) ++ docL ((epochsG s.g w).map fun e => lineP s.g (w, e)) := by
      rw [take_next _ j hjl, List.flatMap_append, ← hw, ← List.append_assoc, docL_append]
      rw [show [w].flatMap (linesW s.g) = linesW s.g w from by simp]; rfl
    have hEl : (epochsG s.g w).length ≤ 64 := by
      have h1 : (epochsG s.g w).length ≤ (pairsG s.g).length := by
        rw [pairsG]
        have h2 : ((epochsG s.g w).map fun e => (w, e)).Sublist ((ownersG s.g).flatMap fun w => (epochsG s.g w).map fun e => (w, e)) := by
          conv => rhs; rw [← List.take_append_drop j (ownersG s.g), List.flatMap_append, List.drop_eq_getElem_cons hjl, List.flatMap_cons, ← hw]
          exact List.Sublist.trans (List.sublist_append_left ..) (List.sublist_append_right ..)
        have := h2.length_le
        rwa [List.length_map] at this
      omega
    clear hB hw
    obtain ⟨l, hl⟩ : ∃ l, l = docL (A ++ ((ownersG s.g).take j).flatMap (linesW s.g)) := ⟨_, rfl⟩
    rw [← hl] at t2 hnx
    have hBl : ∀ k, (l ++ docL (((epochsG s.g w).take k).map fun e => lineP s.g (w, e))).length ≤ 800000 := fun k => by
      have := hBk k
      rw [← List.append_assoc, docL_append] at this
      rw [hl]; exact this
    clear hBk hl
    have hM := t2.lt
    have hxM := t2.x
    refine rg fun K hK => ?_
    refine st (by exact SD.s rfl rfl rfl (by exact AStepD.makeMap rfl)) <| st qN836 <| nt (hK _ _ ?_)
    clear hK K
    refine rg fun K hK => ?_
    refine st qN836 <| nt (hK _ _ ?_)
    clear hK K
    refine AW.seq_k (fun K5 hK5 => ?_)
    refine rg fun K hK => ?_
    refine st qN851 <| st (by exact SD.s rfl rfl rfl (by exact AStepD.load_agg (cs := s.cs (vecA s.known)) tok rfl rfl rfl qN820 rfl (show _ = 128 from rfl) (by rw [hcl]; omega) h.takeT)) <| st qN843 <| st (by exact SD.s rfl rfl rfl (by exact AStepD.callf rfl en26 rfl (of_calls _ s h w))) <| st (by exact SD.s rfl rfl rfl (by exact AStepD.callf rfl en27 rfl (list_calls _ (ofW s w)))) <| st qN842 <| st qN843 <| nt (hK _ _ ?_)
    clear hK K
    have hms : memS (ofW s w) = (msW s w).map fun (n : Nat) => (n : Int) := rfl
    have hmsl : (memS (ofW s w)).length = (msW s w).length := by rw [hms, List.length_map]
    have hms64 := memS_length (ofW s w)
    refine AW.block ?_
    refine AW.loop_at (ι := Nat × AV) (fun x => [(81, .v (.int .i64 (x.1 : Nat))), (80, .v (.int .i64 ((memS (ofW s w)).length : Nat))), (79, vecA (memS (ofW s w))), (10, x.2), (9, .map H2.next), (8, .v (.int .i64 w)), (70, .v (.int .i64 (j : Nat))), (69, .v (.int .i64 ((ownersG s.g).length : Nat))), (68, vecA (ownersG s.g)), (4, .ptr (H.next + 1) 0), (1, .ptr H.next 0)])
      (fun x H' => x.1 ≤ (msW s w).length ∧ ∃ es eps, MapIs es (fB s.ep ((msW s w).take x.1)) ∧ eps.Nodup ∧ (∀ e, e ∈ eps ↔ fB s.ep ((msW s w).take x.1) e ≠ 0#64) ∧ eps.length ≤ x.1 ∧ H'.get H2.next = some (.map (imap .i64 es)) ∧ Lst 3 (H2.next + 1) H' x.2 eps ∧ Keep H2 H' ∧ H2.next < H'.next) (fun x => (msW s w).length - x.1) (0, .v (.slice none 0 0)) qN829
      ⟨Nat.zero_le _, [], [], (fun e => rfl), .nil, (fun e => by rw [List.take_zero]; simp [fB]), Nat.le_refl _, qN820, .nil, qN83, qN818⟩ ?_
    rintro ⟨k, yE⟩ H3 ⟨hk, es, eps, hmp, hnd, hin, hel, gM, hyE, hk3, hn3⟩
    dsimp only at hk hmp hin hel hyE ⊢
    refine rg fun K hK => ?_
    refine st qN830 <| nt (hK _ _ ?_)
    clear hK K
    refine AW.seq_k (fun K6 hK6 => ?_)
    refine AW.cond _ rfl (fun hc => ?_) (fun hc => ?_)
    · (try simp only [Bool.or_eq_true, Bool.and_eq_true, Bool.or_eq_false_iff, Bool.and_eq_false_iff, Bool.not_eq_true', Bool.not_eq_false', decide_eq_true_eq, decide_eq_false_iff_not, Int.not_lt, Int.not_le] at hc)
      have hkl : k < (msW s w).length := by omega
      have hil : (msW s w)[k] < 64 := (ms_mem.1 (List.getElem_mem hkl)).1
      have htk := take_next (msW s w) k hkl
      have hge : (memS (ofW s w))[k]'(by omega) = ((msW s w)[k] : Nat) := by simp only [hms, List.getElem_map]
      generalize hik : (msW s w)[k] = i at hil htk hge
      refine AW.skip ?_
      refine hK6 _ _ ?_; try clear hK6 K6
      refine AW.seq_k (fun K7 hK7 => ?_)
      refine AW.block ?_
      have hx3 : H3.get H.next = some (.cells 34 (s.cs (vecA s.known))) := (hk3.2 _ (by omega)).trans hxM
      refine rg fun K hK => ?_
      refine st qN846 <| st qN848 <| st qN836 <| nt (hK _ _ ?_)
      clear hK K
      rw [hge]
      refine rg fun K hK => ?_
      refine st qN843 <| st qN851 <| st (by exact SD.s rfl rfl rfl qN835) <| st (by exact SD.s rfl rfl rfl (by exact AStepD.indexAddr_arr' (i := i) (off' := 70 + i * 1) tok rfl rfl rfl rfl rfl rfl rfl rfl hil rfl)) <| st (by exact SD.s rfl rfl rfl (by exact AStepD.load_one tok rfl rfl rfl rfl hx3 rfl (h.cE hil))) <| st qN836 <| nt (hK _ _ ?_)
      clear hK K
      obtain ⟨e, he⟩ : ∃ e, e = s.ep i := ⟨_, rfl⟩
      rw [← he]
      refine AW.seq_k (fun K8 hK8 => ?_)
      have hgo : ∀ T' H4 yE' eps', SubT T' [(81, .v (.int .i64 (k : Nat))), (80, .v (.int .i64 ((memS (ofW s w)).length : Nat))), (79, vecA (memS (ofW s w))), (13, .v (.int .i64 e)), (12, .v (.int .i64 (i : Nat))), (10, yE'), (9, .map H2.next), (8, .v (.int .i64 w)), (70, .v (.int .i64 (j : Nat))), (69, .v (.int .i64 ((ownersG s.g).length : Nat))), (68, vecA (ownersG s.g)), (4, .ptr (H.next + 1) 0), (1, .ptr H.next 0)] →
          eps'.Nodup → (∀ q, q ∈ eps' ↔ q ∈ eps ∨ q = e) → eps'.length ≤ k + 1 → H4.get H2.next = some (.map (imap .i64 es)) → Lst 3 (H2.next + 1) H4 yE' eps' → Keep H2 H4 → H2.next < H4.next → K8 T' H4 := fun T' H4 yE' eps' hT' hnd' hin' hel' gM' hyE' hk4 hn4 => by
        refine hK8 _ _ ?_
        refine AW.sub hT' ?_
        clear hT' hK8 K8
        apply AW.draw mixed [_, _, _, _, _, _, _] [6] [_, _] [(0, 0), (1, 0), (2, 0), (3, 0), (4, 0), (5, 0), (6, 0)] rfl rfl rfl (by simp only [List.getD_cons_zero, List.getD_cons_succ]; all_goals apply Eq.refl)
        · refine ⟨?_, ?_, ?_, ?_, ?_, ?_, ?_⟩
          · refine Ob.mk _ [9] 0 rfl rfl (restr_cons qN81 restr_nil) rfl ?_
            simp only [List.getD_cons_zero, List.getD_cons_succ]
            exact GStep.plain rfl qN828
          · refine Ob.mk _ [13] 0 rfl rfl (restr_cons qN81 restr_nil) rfl ?_
            simp only [List.getD_cons_zero, List.getD_cons_succ]
            exact GStep.plain rfl qN828
          · refine Ob.mk _ [98, 99] 0 rfl rfl (restr_cons qN81 (restr_cons qN81 restr_nil)) rfl ?_
            simp only [List.getD_cons_zero, List.getD_cons_succ]
            exact GStep.plain rfl (by exact AStepD.lookup1 tok rfl rfl rfl rfl rfl rfl rfl rfl gM' (hmp e))
          · refine Ob.mk _ [12] 0 rfl rfl (restr_cons qN81 restr_nil) rfl ?_
            simp only [List.getD_cons_zero, List.getD_cons_succ]
            exact GStep.plain rfl qN828
          · refine Ob.mk _ [101] 0 rfl rfl (restr_cons qN81 restr_nil) rfl ?_
            simp only [List.getD_cons_zero, List.getD_cons_succ]
            exact GStep.plain rfl (by first | exact AStepD.bv_shl (a := 1#64) rfl rfl rfl | exact AStepD.shl rfl rfl rfl (by omega) rfl)
          · refine Ob.mk _ [100, 102] 0 rfl rfl (restr_cons qN81 (restr_cons qN81 restr_nil)) rfl ?_
            simp only [List.getD_cons_zero, List.getD_cons_succ]
            exact GStep.plain rfl (by first | exact AStepD.bv_or rfl rfl rfl | exact AStepD.bits rfl (by simp) rfl rfl rfl)
          · refine Ob.mk _ [98, 99, 103] 1 rfl rfl (restr_cons qN81 (restr_cons qN81 (restr_cons qN81 restr_nil))) rfl ?_
            simp only [List.getD_cons_zero, List.getD_cons_succ]
            exact GStep.plain rfl (by exact AStepD.mapUpdate tok rfl rfl rfl qN81 rfl rfl rfl rfl qN820 rfl)
        refine hK7 _ _ ?_; try clear hK7 K7
        refine AW.region ?_
        refine st (by exact SD.s rfl rfl rfl (by first | exact AStepD.add rfl rfl rfl (by first | exact IntWalk.i64_in _ (by omega) | exact IntWalk.i64_in _ (by simp only [Bool.or_eq_true, Bool.and_eq_true, Bool.or_eq_false_iff, Bool.and_eq_false_iff, Bool.not_eq_true', Bool.not_eq_false', decide_eq_true_eq, decide_eq_false_iff_not, Int.not_lt, Int.not_le, beq_iff_eq] at *; omega) | exact rfl) | exact AStepD.str_add rfl rfl rfl (by omega))) <| st qN843 <| AL.nil ?_
        refine ⟨(k + 1, yE'), by show (msW s w).length - (k + 1) < (msW s w).length - k; omega, qN829, hkl, _, eps', ?_, hnd', fun q => ?_, hel', AHeap.get_set_same _ _ _, hyE'.keep (fun D hD _ _ => AHeap.get_set_ne _ _ (by omega)) (Nat.le_refl _), hk4.set (Nat.le_refl _), hn4⟩
        · intro q
          dsimp only
          rw [getI_putI, htk, fB_snoc, ← he]
          by_cases hq : q = e
          · subst hq; rw [if_pos rfl, if_pos rfl]; rfl
          · rw [if_neg hq, if_neg fun h => hq h.symm]; exact hmp q
        · dsimp only
          rw [htk, fB_snoc, hin' q, hin q, ← he]
          by_cases hq : e = q
          · subst hq
            rw [if_pos rfl]
            refine ⟨fun _ h0 => ?_, fun _ => .inr rfl⟩
            have := one_bit i i
            have h1 := congrArg (fun b => b.getLsbD i) h0
            simp only [BitVec.getLsbD_or, BitVec.getLsbD_zero, this] at h1
            simp [hil] at h1
          · rw [if_neg hq]
            exact ⟨fun h => h.elim id fun h => absurd h.symm hq, .inl⟩
      refine rg fun K hK => ?_
      refine st qN843 <| st qN843 <| st (by exact SD.s rfl rfl rfl (by exact AStepD.lookup1 tok rfl rfl rfl rfl rfl rfl rfl rfl gM (hmp e))) <| st (by exact SD.s rfl rfl rfl (by exact AStepD.bool (AStepD.eql (b := ((0#64).toNat : Nat)) rfl rfl rfl) (c := decide (fB s.ep ((msW s w).take k) e = 0#64)) (bv_eq _ _))) <| nt (hK _ _ ?_)
      clear hK K
      refine AW.cond _ rfl (fun hc => ?_) (fun hc => ?_)
      · have hz := of_decide_eq_true hc
        have hne : e ∉ eps := fun h => (hin e).1 h hz
        refine AW.region ?_
        refine st qN843 <| st qN843 <| st (by exact SD.s rfl rfl rfl (by exact AStepD.vec_flat (l := [e]) (AStepD.buildSlice1 tok rfl rfl rfl rfl (show _ = 1 from rfl) qN81 qN81 rfl (by decide) qN88) rfl rfl rfl)) <| st (by exact SD.s rfl rfl rfl (by exact AStepD.append_lst (bk := 64) (l := eps) (y := yE) (b := H2.next + 1) (m := (eps ++ [e]).length) tok rfl rfl hyE rfl rfl rfl rfl rfl rfl (show _ = 1 from rfl) rfl rfl Ax.Src.vec rfl Nat.zero_lt_one (flat_ones _) (by simp; omega) (by simp; omega) (by simp) (flat_append eps [e]).symm)) <| st qN836 <| AL.nil ?_
        refine hgo _ _ _ (eps ++ [e]) qN829 ?_ (fun q => by rw [List.mem_append, List.mem_singleton]) (by rw [List.length_append, List.length_singleton]; omega) ?_ ?_ ?_ ?_
        · rw [List.nodup_append]
          exact ⟨hnd, List.pairwise_singleton .., fun a ha b hb => by rw [List.mem_singleton.1 hb]; exact fun h => hne (h ▸ ha)⟩
        · rw [z9 _ (hyE.lab_ne (by omega)), AHeap.get_new_ne _ _ (by omega)]; exact gM
        · exact hyE.app (by omega) (by simp) rfl
        · refine ⟨by simp only [zd, zc]; have := hk3.1; omega, fun q hq => ?_⟩
          rw [z9 _ (hyE.lab_ne (by omega)), AHeap.get_new_ne _ _ (by omega)]; exact hk3.2 q hq
        · simp only [zd, zc]; omega
      · have hz := of_decide_eq_false hc
        refine AW.skip ?_
        exact hgo _ H3 yE eps qN829 hnd (fun q => ⟨.inl, fun h => h.elim id fun h => h ▸ (hin e).2 hz⟩) (by omega) gM hyE hk3 hn3
    (try simp only [Bool.or_eq_true, Bool.and_eq_true, Bool.or_eq_false_iff, Bool.and_eq_false_iff, Bool.not_eq_true', Bool.not_eq_false', decide_eq_true_eq, decide_eq_false_iff_not, Int.not_lt, Int.not_le] at hc)
    obtain rfl : k = (msW s w).length := by omega
    rw [List.take_length] at hmp hin
    refine AW.exit ?_
    refine hK5 _ _ ?_; try clear hK5 K5 hK6 K6
    have hmsne : ∃ i, i ∈ msW s w := by
      obtain ⟨_, i, hi, e⟩ := mem_ownersG.1 hwm
      exact ⟨i, ms_mem.2 ⟨hi, e⟩⟩
    have heps : 0 < eps.length := by
      obtain ⟨i, hi⟩ := hmsne
      exact List.length_pos_of_mem ((hin (s.ep i)).2 ((fB_ne (fun i hi => (ms_mem.1 hi).1) _).2 ⟨i, hi, rfl⟩))
    have hsort := eps_sort hnd hin
    obtain ⟨D, rfl, hD, hDn, hgD⟩ := hyE.at heps
    refine rg fun K hK => ?_
    refine st qN843 <| st (by exact SD.s rfl rfl rfl (by exact AStepD.callf rfl en28 rfl (sort_calls _ eps D hgD (by omega)))) <| nt (hK _ _ ?_)
    clear hK K
    have hsl := sortI_len eps
    rw [hsort] at hsl ⊢
    refine AW.vecL (s := 10) (b := H2.next + 1) (t := 3) (l := epochsG s.g w) (y := .sl D 0 eps.length 1) (Lst.mk hD (by simp only [za]; exact hDn) (AHeap.get_set_same _ _ _) rfl hsl.symm rfl) rfl ?_
    have hH4 : (H3.set D (.cells 3 (flat (epochsG s.g w)))).delv (.sl D 0 eps.length 1) = H3.del D := by
      refine AHeap.ext (fun q => ?_) rfl
      show ((H3.set D _).del D).get q = (H3.del D).get q
      by_cases hq : q = D
      · subst hq; rw [AHeap.get_del_same, AHeap.get_del_same]
      · rw [AHeap.get_del_ne _ hq, AHeap.get_del_ne _ hq, AHeap.get_set_ne _ _ hq]
    have hk4 : Keep H2 (H3.del D) := ⟨hk3.1, fun q hq => by rw [AHeap.get_del_ne _ (by omega)]; exact hk3.2 q hq⟩
    have gM4 : (H3.del D).get H2.next = some (.map (imap .i64 es)) := by rw [AHeap.get_del_ne _ (by omega)]; exact gM
    have hn4 : H2.next < (H3.del D).next := hn3
    have t4 := t2.more hk4.1 hk4.2
    have hl4 := t2.lab (.inl (Nat.le_refl H2.next))
    generalize H3.del D = H4 at hH4 hk4 gM4 hn4 t4
    generalize H3.set D (.cells 3 (flat (epochsG s.g w))) = H5 at hH4
    rw [hH4]
    clear hH4 H5 hsl hsort hgD hDn hD heps hyE gM hk3 hn3 hin hnd hel hmsne
    refine rg fun K hK => ?_
    refine st qN843 <| st qN842 <| st qN843 <| nt (hK _ _ ?_)
    clear hK K
    refine AW.block ?_
    refine AW.loop_at (ι := Nat) (fun k => [(109, .v (.int .i64 (k : Nat))), (108, .v (.int .i64 ((epochsG s.g w).length : Nat))), (107, vecA (epochsG s.g w)), (9, .map H2.next), (8, .v (.int .i64 w)), (70, .v (.int .i64 (j : Nat))), (69, .v (.int .i64 ((ownersG s.g).length : Nat))), (68, vecA (ownersG s.g)), (4, .ptr (H.next + 1) 0), (1, .ptr H.next 0)])
      (fun k H' => k ≤ (epochsG s.g w).length ∧ ∃ y, TX H s H' y (l ++ docL (((epochsG s.g w).take k).map fun e => lineP s.g (w, e))) ∧ H'.get H2.next = some (.map (imap .i64 es)) ∧ lab y ≠ some H2.next ∧ H2.next < H'.next) (fun k => (epochsG s.g w).length - k) 0 qN829
      ⟨Nat.zero_le _, y2, by rw [List.take_zero, List.map_nil, show docL [] = [] from rfl, List.append_nil]; exact t4, gM4, hl4, hn4⟩ ?_
    clear t4 gM4 hl4 hn4 hk4 H4 t2 hc H3
    rintro k H3 ⟨hk, y3, t3, gM, hlb, hn3⟩
    refine rg fun K hK => ?_
    refine st qN830 <| nt (hK _ _ ?_)
    clear hK K
    refine AW.seq_k (fun K5 hK5 => ?_)
    refine AW.cond _ rfl (fun hc => ?_) (fun hc => ?_)
    · (try simp only [Bool.or_eq_true, Bool.and_eq_true, Bool.or_eq_false_iff, Bool.and_eq_false_iff, Bool.not_eq_true', Bool.not_eq_false', decide_eq_true_eq, decide_eq_false_iff_not, Int.not_lt, Int.not_le] at hc)
      have hkl : k < (epochsG s.g w).length := by omega
      have hkm := List.getElem_mem hkl
      have hdn : docL (((epochsG s.g w).take (k + 1)).map fun e => lineP s.g (w, e)) = docL (((epochsG s.g w).take k).map fun e => lineP s.g (w, e)) ++ (jL (lineP s.g (w, (epochsG s.g w)[k])) ++ [10]) := by
        rw [take_next _ k hkl, List.map_append, docL_append]
        rw [show [(epochsG s.g w)[k]].map (fun e => lineP s.g (w, e)) = [lineP s.g (w, (epochsG s.g w)[k])] from rfl, docL_one]
      have hb := hBl k
      obtain ⟨e, he⟩ : ∃ e, e = (epochsG s.g w)[k] := ⟨_, rfl⟩
      rw [← he] at hdn hkm
      have hok := lineP_ok r (p := (w, e)) (mem_epochsG.1 hkm)
      have hms := ms_set s w e
      refine AW.skip ?_
      refine hK5 _ _ ?_; try clear hK5 K5
      refine AW.seq_k (fun K6 hK6 => ?_)
      refine AW.block ?_
      refine rg fun K hK => ?_
      refine st qN846 <| st qN848 <| st qN836 <| nt (hK _ _ ?_)
      clear hK K
      rw [← he]
      refine AW.region ?_
      refine st qN837 <| st qN843 <| st qN837 <| st qN837 <| st qN843 <| st qN837 <| st qN837 <| st qN843 <| st qN843 <| st (by exact SD.s rfl rfl rfl (by exact AStepD.val (AStepD.lookup1 tok rfl rfl rfl rfl rfl rfl rfl rfl gM (hmp e)) (y := u64A (setG s.g (w, e))) (by rw [hms]))) <| st (by exact SD.s rfl rfl rfl (by exact AStepD.callf rfl en29 rfl (text_calls _ (setG s.g (w, e))))) <| st qN837 <| st (by exact SD.s rfl rfl rfl (by exact AStepD.vec_flat (l := (lineP s.g (w, e))) (AStepD.buildSlice_seq tok rfl rfl rfl rfl (show _ = 1 from rfl) (map_p qN81 (map_p qN81 (map_p qN81 (map_p qN81 (map_p qN81 (map_p qN81 map_n)))))) rfl (by decide) (by decide) rfl qN87 qN88) rfl rfl rfl)) <| ?_
      refine AL.call rfl rfl rfl (AStep.callf rfl en24 (line_calls _ _ _ _ (lineP s.g (w, e)) t3.bd (fun p hp => (hok.1 p hp).1) (by show 6 ≤ 20; decide) (by omega))) ?_; rintro _ H4 ⟨rfl, y4, hb4, hs4⟩
      refine AL.nil ?_
      have t4 := t3.write hb4 hs4
      have hM0 := t3.lt
      have g4 := (hs4.keep H2.next hn3 (by omega) hlb).trans gM
      have n4 := hs4.nx
      have l4 := hs4.ne hn3 hlb
      rw [List.append_assoc, ← hdn] at t4
      refine hK6 _ _ ?_; try clear hK6 K6
      refine AW.region ?_
      refine st (by exact SD.s rfl rfl rfl (by first | exact AStepD.add rfl rfl rfl (by first | exact IntWalk.i64_in _ (by omega) | exact IntWalk.i64_in _ (by simp only [Bool.or_eq_true, Bool.and_eq_true, Bool.or_eq_false_iff, Bool.and_eq_false_iff, Bool.not_eq_true', Bool.not_eq_false', decide_eq_true_eq, decide_eq_false_iff_not, Int.not_lt, Int.not_le, beq_iff_eq] at *; omega) | exact rfl) | exact AStepD.str_add rfl rfl rfl (by omega))) <| st qN843 <| AL.nil ?_
      exact ⟨k + 1, by omega, qN829, hkl, y4, t4, g4, l4, by omega⟩
    (try simp only [Bool.or_eq_true, Bool.and_eq_true, Bool.or_eq_false_iff, Bool.and_eq_false_iff, Bool.not_eq_true', Bool.not_eq_false', decide_eq_true_eq, decide_eq_false_iff_not, Int.not_lt, Int.not_le] at hc)
    obtain rfl : k = (epochsG s.g w).length := by omega
    rw [List.take_length, ← hnx] at t3
    refine AW.exit ?_
    refine hK4 _ _ ?_; try clear hK4 K4 hK5 K5
    refine AW.region ?_
    refine st (by exact SD.s rfl rfl rfl (by first | exact AStepD.add rfl rfl rfl (by first | exact IntWalk.i64_in _ (by omega) | exact IntWalk.i64_in _ (by simp only [Bool.or_eq_true, Bool.and_eq_true, Bool.or_eq_false_iff, Bool.and_eq_false_iff, Bool.not_eq_true', Bool.not_eq_false', decide_eq_true_eq, decide_eq_false_iff_not, Int.not_lt, Int.not_le, beq_iff_eq] at *; omega) | exact rfl) | exact AStepD.str_add rfl rfl rfl (by omega))) <| st qN843 <| AL.nil ?_
    exact ⟨j + 1, by omega, qN829, hjl, y3, t3⟩
  (try simp only [Bool.or_eq_true, Bool.and_eq_true, Bool.or_eq_false_iff, Bool.and_eq_false_iff, Bool.not_eq_true', Bool.not_eq_false', decide_eq_true_eq, decide_eq_false_iff_not, Int.not_lt, Int.not_le] at hc)
  obtain rfl : j = (ownersG s.g).length := by omega
  have hdoc : docL (A ++ ((ownersG s.g).take (ownersG s.g).length).flatMap (linesW s.g)) = docT s := by rw [List.take_length, hAe]; rfl
  have hB1 := hB (ownersG s.g).length 0 0 (Nat.le_refl _) (fun h => absurd h (Nat.lt_irrefl _)) (fun _ => rfl)
  rw [List.take_zero, List.map_nil, List.append_nil, hdoc] at hB1
  rw [hdoc] at t2
  have hne : docT s ≠ [] := by
    rw [docT, allL, show ∀ (a : List Prt) (l : List (List Prt)), a :: l = [a] ++ l from fun _ _ => rfl, docL_append, docL_one]
    simp
  refine AW.exit ?_
  refine hK2 _ _ ?_; try clear hK2 K2 hK3 K3
  have hlt := t2.lt
  refine rg fun K hK => ?_
  refine AL.call rfl rfl rfl (AStep.callf rfl en30 (bstring_calls _ _ _ _ t2.bd hne (by omega))) ?_; rintro _ H3 ⟨rfl, hnx3, hkp⟩
  refine st qN836 <| st qN836 <| nt (hK _ _ ?_)
  clear hK K
  refine AW.ret (RetQ.mk (.inr rfl) (retA_tmp rfl qN81 (retA_tmp rfl qN81 retA_nil)) ⟨?_, ?_⟩)
  · rw [hr]; rfl
  exact ⟨by rw [hnx3]; exact t2.k.1, fun q hq => (hkp q (by omega) (t2.lab (.inr (by omega)))).trans (t2.k.2 q hq)⟩
end Go.Proofs.YtcomjodfkcnjhaaGreatDoor
