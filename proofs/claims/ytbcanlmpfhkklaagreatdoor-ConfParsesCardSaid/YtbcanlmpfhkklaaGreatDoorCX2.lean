/- The reference's reading, plainly. -/
import Derived.Test.YtbcanlmpfhkklaaGreatDoorCP2
import Derived.Test.YtbcanlmpfhkklaaGreatDoorCX1
set_option linter.unusedSimpArgs false
set_option linter.unusedVariables false
namespace Go.Proofs.YtbcanlmpfhkklaaGreatDoor
open Go.Ax
open Cel (c)

def runX : Nat → List UInt8 → Nat
  | 0, _ => 0
  | _ + 1, [] => 0
  | f + 1, x :: r => if isD x then runX f r + 1 else 0
theorem run_lt : ∀ (f : Nat) (m : List UInt8) (j : Nat), j < runX f m → j < f ∧ j < m.length ∧ isD (m.getD j 0) = true
  | 0, _, _, h => absurd h (Nat.not_lt_zero _)
  | _ + 1, [], _, h => absurd h (Nat.not_lt_zero _)
  | f + 1, x :: r, j, h => by
    rw [runX] at h
    split at h
    · rename_i hx
      cases j with
      | zero => exact ⟨Nat.succ_pos _, Nat.succ_pos _, hx⟩
      | succ j =>
        obtain ⟨a, b, d⟩ := run_lt f r j (by omega)
        exact ⟨by omega, by rw [List.length_cons]; omega, d⟩
    · exact absurd h (Nat.not_lt_zero _)
theorem run_stop : ∀ (f : Nat) (m : List UInt8), ¬ (runX f m < f ∧ runX f m < m.length ∧ isD (m.getD (runX f m) 0) = true)
  | 0, _ => fun h => absurd h.1 (Nat.not_lt_zero _)
  | _ + 1, [] => fun h => absurd h.2.1 (Nat.not_lt_zero _)
  | f + 1, x :: r => by
    rw [runX]
    split
    · rintro ⟨a, b, d⟩
      exact run_stop f r ⟨by omega, by rw [List.length_cons] at b; omega, d⟩
    · rename_i hx
      rintro ⟨_, _, d⟩
      exact hx d
theorem run_le (f : Nat) (m : List UInt8) : runX f m ≤ f ∧ runX f m ≤ m.length := by
  rcases Nat.eq_zero_or_pos (runX f m) with h | h
  · omega
  · have := run_lt f m (runX f m - 1) (by omega)
    omega
theorem run_app : ∀ (f : Nat) (d v : List UInt8), d.length ≤ f → d.all isD = true → (∀ x r, v = x :: r → isD x = false) → d.length < f → runX f (d ++ v) = d.length
  | 0, _, _, _, _, _, h => absurd h (Nat.not_lt_zero _)
  | f + 1, [], [], _, _, _, _ => rfl
  | f + 1, [], x :: r, _, _, hv, _ => by
    rw [List.nil_append, runX, hv x r rfl]; rfl
  | f + 1, x :: d, v, hf, hd, hv, hl => by
    rw [List.all_cons, Bool.and_eq_true] at hd
    rw [List.length_cons] at hf hl
    rw [List.cons_append, runX, if_pos hd.1, run_app f d v (by omega) hd.2 hv (by omega), List.length_cons]
def numK (l : List UInt8) (b : Nat) : Nat := runX 16 (l.drop b)
def numN (l : List UInt8) (b : Nat) : Nat := valF 0 ((l.drop b).take (numK l b))
def numOk (l : List UInt8) (b : Nat) : Bool := decide (0 < numK l b) && (decide (at8 l b ≠ 48) || decide (numK l b = 1))
theorem val_lt (d : List UInt8) : ∀ (a : Nat), d.all isD = true → valF a d < (a + 1) * 10 ^ d.length := by
  induction d with
  | nil => intro a _; show a < (a + 1) * 1; omega
  | cons x d ih =>
    intro a h
    rw [List.all_cons, Bool.and_eq_true] at h
    obtain ⟨h1, h2⟩ := isD_of h.1
    show valF (10 * a + (x.toNat - 48)) d < (a + 1) * 10 ^ (d.length + 1)
    refine Nat.lt_of_lt_of_le (ih (10 * a + (x.toNat - 48)) h.2) ?_
    rw [Nat.pow_succ, Nat.mul_comm (10 ^ d.length) 10, ← Nat.mul_assoc]
    exact Nat.mul_le_mul_right _ (by omega)
def wordX (l : List UInt8) (a : Nat) (w : List UInt8) : Bool := decide (a + w.length + 1 ≤ l.length) && decide ((l.drop a).take (w.length + 1) = w ++ [32])
def plX (f : Bool) (a : Nat) : Nat := if f then a else a + 1
def gapX (l : List UInt8) (f : Bool) (a : Nat) : Bool := f || (decide (a < l.length) && decide (at8 l a = 32))
def pairX (l : List UInt8) (f : Bool) (a : Nat) (w : List UInt8) : Option (Int × Nat) :=
  if gapX l f a && wordX l (plX f a) w && numOk l (plX f a + w.length + 1) then some ((numN l (plX f a + w.length + 1) : Nat), plX f a + w.length + 1 + numK l (plX f a + w.length + 1)) else none
def pairsX (l : List UInt8) : Bool → Nat → List (List UInt8) → Option (List Int × Nat)
  | _, a, [] => some ([], a)
  | f, a, w :: ws => match pairX l f a w with
    | none => none
    | some p => (pairsX l false p.2 ws).map fun q => (p.1 :: q.1, q.2)
theorem pairsX_len (l : List UInt8) : ∀ (ws : List (List UInt8)) (f : Bool) (a : Nat) (ns : List Int) (e : Nat), a ≤ l.length → pairsX l f a ws = some (ns, e) → ns.length = ws.length ∧ e ≤ l.length
  | [], f, a, ns, e, ha, h => by cases h; exact ⟨rfl, ha⟩
  | w :: ws, f, a, ns, e, ha, h => by
    rw [pairsX] at h
    cases hp : pairX l f a w with
    | none => rw [hp] at h; cases h
    | some p =>
      rw [hp] at h
      obtain ⟨q, hq, he⟩ := Option.map_eq_some_iff.1 h
      cases he
      have hb : p.2 ≤ l.length := by
        rw [pairX] at hp
        split at hp
        · rename_i hc
          cases hp
          simp only [Bool.and_eq_true, wordX, decide_eq_true_eq] at hc
          have := (run_le 16 (l.drop (plX f a + w.length + 1))).2
          rw [List.length_drop] at this
          show _ + numK _ _ ≤ _
          rw [numK]; omega
        · cases hp
      obtain ⟨h1, h2⟩ := pairsX_len l ws false p.2 q.1 q.2 hb hq
      exact ⟨by rw [List.length_cons, List.length_cons, h1], h2⟩
theorem dec_all (n : Nat) : (Lib.decDigits n).all isD = true := by
  have := (val_dec n).1
  rw [okN, Bool.and_eq_true, Bool.and_eq_true] at this
  exact this.1.2
theorem pair_of (u v w : List UInt8) (n : Int) (f : Bool) (h0 : 0 ≤ n) (h1 : n < 1000000000000000) (hv : ∀ x r, v = x :: r → isD x = false) :
    pairX (u ++ ((if f then [] else [32]) ++ (w ++ 32 :: (Lib.itoa n ++ v)))) f u.length w = some (n, u.length + (if f then 0 else 1) + w.length + 1 + (Lib.itoa n).length) := by
  obtain ⟨m, rfl⟩ := Int.eq_ofNat_of_zero_le h0
  rw [itoa_nat]
  obtain ⟨D, hD⟩ : ∃ D, D = Lib.decDigits m := ⟨_, rfl⟩
  have hDl : D.length ≤ 15 := by rw [hD]; exact dec_short (by omega)
  have hDa : D.all isD = true := by rw [hD]; exact dec_all m
  obtain ⟨v1, v2, _⟩ := val_dec m
  rw [← hD] at v1 v2 ⊢
  obtain ⟨l, hl⟩ : ∃ l, l = u ++ ((if f then [] else [32]) ++ (w ++ 32 :: (D ++ v))) := ⟨_, rfl⟩
  have hpl : plX f u.length = u.length + (if f then 0 else 1) := by cases f <;> rfl
  have hsl : (if f then ([] : List UInt8) else [32]).length = (if f then 0 else 1) := by cases f <;> rfl
  have hd1 : l.drop (plX f u.length) = w ++ 32 :: (D ++ v) := by
    rw [hl, hpl, ← hsl, ← List.length_append, ← List.append_assoc, List.drop_left]
  have hd2 : l.drop (plX f u.length + w.length + 1) = D ++ v := by
    rw [show plX f u.length + w.length + 1 = plX f u.length + (w.length + 1) by omega, ← List.drop_drop, hd1, show w ++ 32 :: (D ++ v) = (w ++ [32]) ++ (D ++ v) by simp]
    exact List.drop_left' (by simp)
  have hll : l.length = plX f u.length + w.length + 1 + D.length + v.length := by
    rw [hl, hpl, ← hsl]; simp only [List.length_append, List.length_cons]; omega
  have hk : numK l (plX f u.length + w.length + 1) = D.length := by rw [numK, hd2]; exact run_app 16 D v (by omega) hDa hv (by omega)
  have hN : numN l (plX f u.length + w.length + 1) = m := by rw [numN, hk, hd2, List.take_left, v2]
  have hg : gapX l f u.length = true := by
    cases f with
    | true => rfl
    | false =>
      have h8 : at8 l u.length = 32 := by rw [at8, hl, List.getD_eq_getElem?_getD, List.getElem?_append_right (Nat.le_refl _), Nat.sub_self]; rfl
      rw [gapX, decide_eq_true (by rw [hll, hpl]; simp; omega), decide_eq_true h8]; rfl
  have hw : wordX l (plX f u.length) w = true := by
    rw [wordX, decide_eq_true (by omega), hd1, show w ++ 32 :: (D ++ v) = (w ++ [32]) ++ (D ++ v) by simp, List.take_left' (by simp), decide_eq_true rfl]; rfl
  have hok : numOk l (plX f u.length + w.length + 1) = true := by
    rw [okN, Bool.and_eq_true, Bool.and_eq_true, Bool.or_eq_true, decide_eq_true_eq, decide_eq_true_eq, decide_eq_true_eq] at v1
    rw [numOk, hk, decide_eq_true v1.1.1, Bool.true_and, Bool.or_eq_true, decide_eq_true_eq, decide_eq_true_eq]
    rcases v1.2 with h | h
    · exact .inr h
    · refine .inl fun e => h ?_
      have e2 : at8 l (plX f u.length + w.length + 1) = at8 (l.drop (plX f u.length + w.length + 1)) 0 := by
        rw [at8, at8, List.getD_eq_getElem?_getD, List.getD_eq_getElem?_getD, List.getElem?_drop, Nat.add_zero]
      rw [e2, hd2] at e
      cases hDD : D with
      | nil => rw [hDD] at v1; exact absurd v1.1.1 (by decide)
      | cons x r =>
        rw [hDD] at e
        have : x = 48 := UInt8.toNat_inj.1 (show x.toNat = (48 : UInt8).toNat from e)
        rw [this]; rfl
  rw [← hl, pairX, hg, hw, hok, hN, hk, hpl]
  rfl
def intT : Bool → List (List UInt8) → List Int → List UInt8
  | f, w :: ws, n :: ns => (if f then [] else [32]) ++ (w ++ 32 :: (Lib.itoa n ++ intT false ws ns))
  | _, _, _ => []
theorem pairs_of : ∀ (ws : List (List UInt8)) (ns : List Int) (f : Bool) (u v : List UInt8), ws.length = ns.length → (∀ n ∈ ns, 0 ≤ n ∧ n < 1000000000000000) → (∀ x r, v = x :: r → isD x = false) →
    pairsX (u ++ (intT f ws ns ++ v)) f u.length ws = some (ns, u.length + (intT f ws ns).length)
  | [], [], f, u, v, _, _, _ => rfl
  | w :: ws, n :: ns, f, u, v, hl, hn, hv => by
    have h1 := hn n (List.mem_cons_self ..)
    have hv2 : ∀ x r, intT false ws ns ++ v = x :: r → isD x = false := by
      intro x r h
      match ws, ns with
      | [], [] => exact hv x r h
      | [], _ :: _ => exact hv x r h
      | _ :: _, [] => exact hv x r h
      | w' :: ws', n' :: ns' =>
        have : x = 32 := by
          have := congrArg List.head? h
          exact (Option.some.inj this).symm
        rw [this]; decide
    have e : u ++ (intT f (w :: ws) (n :: ns) ++ v) = u ++ ((if f then [] else [32]) ++ (w ++ 32 :: (Lib.itoa n ++ (intT false ws ns ++ v)))) := by
      rw [intT]; simp only [List.append_assoc, List.cons_append]
    have e2 : u ++ (intT f (w :: ws) (n :: ns) ++ v) = (u ++ ((if f then [] else [32]) ++ (w ++ 32 :: Lib.itoa n))) ++ (intT false ws ns ++ v) := by
      rw [e]; simp only [List.append_assoc, List.cons_append]
    have el : (u ++ ((if f then [] else [32]) ++ (w ++ 32 :: Lib.itoa n))).length = u.length + (if f then 0 else 1) + w.length + 1 + (Lib.itoa n).length := by
      cases f <;> simp <;> omega
    have h2 := pairs_of ws ns false (u ++ ((if f then [] else [32]) ++ (w ++ 32 :: Lib.itoa n))) v (by simpa using hl) (fun k hk => hn k (List.mem_cons_of_mem _ hk)) hv
    rw [← e2, el] at h2
    rw [pairsX, e, pair_of u _ w n f h1.1 h1.2 hv2, ← e]
    show (pairsX _ false _ ws).map _ = _
    rw [h2]
    show some (n :: ns, _) = _
    rw [intT]
    congr 2
    cases f <;> simp <;> omega
  | [], _ :: _, _, _, _, h, _, _ => by cases h
  | _ :: _, [], _, _, _, h, _, _ => by cases h
def lineX (f : Bool) (t : Stt) (l : List UInt8) : Option Stt :=
  if f then (match pairsX l true 0 W5 with
    | some p => if p.2 = l.length then some (hdS t p.1) else none
    | none => none)
  else match pairsX l true 0 W3 with
    | some p => if p.2 = l.length then some (addK t (knS p.1)) else none
    | none => match pairsX l true 0 W2 with
      | some p => if decide (p.2 + 3 ≤ l.length) && decide ((l.drop p.2).take 3 = [32, 58, 32]) && (parseO (l.drop (p.2 + 3))).isSome then some (putT t (parseS (l.drop (p.2 + 3))) (p.1.getD 0 0) (p.1.getD 1 0)) else none
      | none => none
theorem lineX_H {s t : Stt} (r : Rt s) : lineX true t (jL (lineH s)) = some (hdS t [s.id, s.master, s.cur, s.vote, s.cfg]) := by
  have e : jL (lineH s) = intT true W5 [s.id, s.master, s.cur, s.vote, s.cfg] := by
    rw [jL]
    simp [lineH, Prt.txt, join_cons, Lib.join_one, intT]
  have h1 := r.id
  have h2 := r.master
  have h3 := r.cur
  have h4 := r.vote
  have h5 := r.cfg
  have h := pairs_of W5 [s.id, s.master, s.cur, s.vote, s.cfg] true [] [] rfl (by simp only [List.forall_mem_cons]; exact ⟨⟨by omega, by omega⟩, ⟨by omega, by omega⟩, ⟨by omega, by omega⟩, ⟨by omega, by omega⟩, ⟨by omega, by omega⟩, fun _ h => absurd h List.not_mem_nil⟩) (fun _ _ h => by cases h)
  rw [List.append_nil, List.nil_append, ← e, List.length_nil, Nat.zero_add] at h
  rw [lineX, if_pos rfl, h]
  exact if_pos rfl
theorem lineX_K {s t : Stt} (r : Rt s) {k : Kn} (hk : k ∈ s.known) : lineX false t (jL (lineK k)) = some (addK t k) := by
  have e : jL (lineK k) = intT true W3 [k.id, k.master, k.cfg] := by
    rw [jL]
    simp [lineK, Prt.txt, join_cons, Lib.join_one, intT]
  obtain ⟨h1, h2, h3⟩ := r.known k hk
  have h := pairs_of W3 [k.id, k.master, k.cfg] true [] [] rfl (by simp only [List.forall_mem_cons]; exact ⟨⟨by omega, by omega⟩, ⟨by omega, by omega⟩, ⟨by omega, by omega⟩, fun _ h => absurd h List.not_mem_nil⟩) (fun _ _ h => by cases h)
  rw [List.append_nil, List.nil_append, ← e, List.length_nil, Nat.zero_add] at h
  rw [lineX, if_neg (by decide), h]
  exact if_pos rfl
theorem lineX_S {t : Stt} {w e : Int} (b : BitVec 64) (hw : 0 ≤ w ∧ w < 1000000000000000) (he : 0 ≤ e ∧ e < 1000000000000000) : lineX false t (jL (lineS w e b)) = some (putT t b w e) := by
  have e1 : jL (lineS w e b) = intT true W2 [w, e] ++ ([32, 58, 32] ++ textS b) := by
    rw [jL]
    simp [lineS, Prt.txt, join_cons, Lib.join_one, intT]
  have h := pairs_of W2 [w, e] true [] ([32, 58, 32] ++ textS b) rfl (by simp only [List.forall_mem_cons]; exact ⟨hw, he, fun _ h => absurd h List.not_mem_nil⟩) (fun x r h => by
    have : x = 32 := by
      have := congrArg List.head? h
      exact (Option.some.inj this).symm
    rw [this]; decide)
  rw [List.nil_append, ← e1, List.length_nil, Nat.zero_add] at h
  have h3 : pairsX (jL (lineS w e b)) true 0 W3 = none := by
    have : wordX (jL (lineS w e b)) (plX true 0) wN = false := by
      have : decide ((List.take (wN.length + 1) (List.drop (plX true 0) (jL (lineS w e b)))) = wN ++ [32]) = false := by
        rw [e1]; rfl
      rw [wordX, this, Bool.and_false]
    have : pairX (jL (lineS w e b)) true 0 wN = none := by
      rw [pairX, this, Bool.and_false, Bool.false_and]; rfl
    rw [pairsX, this]
  have hd : (jL (lineS w e b)).drop (intT true W2 [w, e]).length = [32, 58, 32] ++ textS b := by rw [e1, List.drop_left]
  have hd3 : (jL (lineS w e b)).drop ((intT true W2 [w, e]).length + 3) = textS b := by rw [← List.drop_drop, hd]; rfl
  rw [lineX, if_neg (by decide), h3, h]
  dsimp only
  rw [hd, hd3, parse_text, parseS, parse_text, decide_eq_true (by rw [e1]; simp only [List.length_append, List.length_cons, List.length_nil]; omega)]
  rfl
def readX : Bool → Stt → List (List UInt8) → Option Stt
  | _, t, [] => some t
  | f, t, l :: ls => (lineX f t l).bind fun t' => readX false t' ls
theorem read_tail : ∀ (ls : List (List UInt8)) (t : Stt), (∀ l ∈ ls, ∀ t, lineX false t l = stepP false t l) → readX false t ls = readL false t ls
  | [], _, _ => rfl
  | l :: ls, t, h => by
    rw [readX, readL, h l (List.mem_cons_self ..)]
    exact congrArg (fun f => (stepP false t l).bind f) (funext fun t' => read_tail ls t' fun q hq => h q (List.mem_cons_of_mem _ hq))
def lnX (a : List UInt8) : List UInt8 → List (List UInt8)
  | [] => []
  | x :: r => if x = 10 then a :: lnX [] r else lnX (a ++ [x]) r
theorem ln_line : ∀ (l a r : List UInt8), (10 : UInt8) ∉ l → lnX a (l ++ 10 :: r) = (a ++ l) :: lnX [] r
  | [], a, r, _ => by rw [List.nil_append, lnX, if_pos rfl, List.append_nil]
  | x :: l, a, r, h => by
    rw [List.cons_append, lnX, if_neg (show ¬ x = 10 from fun e => h (by rw [e]; exact List.mem_cons_self ..)), ln_line l (a ++ [x]) r fun hm => h (List.mem_cons_of_mem _ hm), List.append_assoc]; rfl
theorem ln_doc : ∀ (ls : List (List Prt)), (∀ ps ∈ ls, (10 : UInt8) ∉ jL ps) → lnX [] (docL ls) = ls.map jL
  | [], _ => rfl
  | ps :: ls, h => by
    have e : docL (ps :: ls) = jL ps ++ 10 :: docL ls := by
      rw [show ps :: ls = [ps] ++ ls from rfl, docL_append, docL_one, List.append_assoc]; rfl
    rw [e, ln_line _ _ _ (h ps (List.mem_cons_self ..)), ln_doc ls fun q hq => h q (List.mem_cons_of_mem _ hq), List.nil_append]; rfl
def rawX (t : List UInt8) : Option Stt := readX true zS (lnX [] t)
theorem rawX_doc {s : Stt} (ok : s.Ok) (r : Rt s) : rawX (docT s) = some s := by
  have h := raw_doc ok r
  rw [rawP, docT, lines_doc (by rw [allL]; simp) (all_lf r), allL_eq, List.map_cons, readL, stepH r] at h
  rw [rawX, docT, ln_doc _ fun ps hps => jL_lf (all_lf r ps hps), allL_eq, List.map_cons, readX, lineX_H r]
  refine Eq.trans ?_ h
  refine read_tail _ _ fun l hl t => ?_
  rw [List.map_append, List.mem_append, List.mem_map, List.mem_map] at hl
  rcases hl with ⟨ps, hps, rfl⟩ | ⟨ps, hps, rfl⟩
  · obtain ⟨k, hk, rfl⟩ := List.mem_map.1 hps
    rw [lineX_K r hk, stepK r hk]
  · obtain ⟨p, hp, rfl⟩ := List.mem_map.1 hps
    obtain ⟨i, hi, hg⟩ := (mem_pairsG.1 hp).2
    obtain ⟨a, b, _⟩ := r.slot i hi
    have e1 : s.ow i = p.1 := congrArg Prod.fst hg
    have e2 : s.ep i = p.2 := congrArg Prod.snd hg
    rw [e1] at a
    rw [e2] at b
    rw [lineP, lineX_S _ ⟨a.1, by omega⟩ ⟨b.1, by omega⟩, stepQ _ ⟨a.1, by omega⟩ ⟨b.1, by omega⟩]
theorem lineX_ok {f : Bool} {t t' : Stt} {l : List UInt8} (h : t.Ok) (hs : lineX f t l = some t') : t'.Ok := by
  rw [lineX] at hs
  split at hs
  · split at hs
    · split at hs
      · cases hs; exact ⟨h.o, h.e⟩
      · cases hs
    · cases hs
  · split at hs
    · split at hs
      · cases hs; exact ⟨h.o, h.e⟩
      · cases hs
    · split at hs
      · split at hs
        · cases hs
          exact ⟨(putL_len _ _ _).trans h.o, (putL_len _ _ _).trans h.e⟩
        · cases hs
      · cases hs
def parseX (t : List UInt8) : Option Stt := (rawX t).bind fun s => if rightB s = true ∧ docT s = t then some s else none
theorem readX_ok : ∀ {f : Bool} {ls : List (List UInt8)} {s s' : Stt}, s.Ok → readX f s ls = some s' → s'.Ok
  | _, [], _, _, h, e => by cases e; exact h
  | _, l :: ls, s, s', h, e => by
    rw [readX] at e
    obtain ⟨t, ht, e⟩ := Option.bind_eq_some_iff.1 e
    exact readX_ok (lineX_ok h ht) e
theorem parseX_eq (t : List UInt8) : parseX t = parseP t := by
  rw [parseX]
  cases hr : rawX t with
  | none =>
    cases hp : parseP t with
    | none => rfl
    | some s =>
      obtain ⟨h1, h2⟩ := parse_some hp
      rw [← h2, rawX_doc (parse_ok hp) (right_rt h1)] at hr
      cases hr
  | some s =>
    show (if _ then _ else _) = _
    by_cases h : rightB s = true ∧ docT s = t
    · rw [if_pos h, ← h.2, parse_doc (readX_ok zS_ok hr) h.1]
    · rw [if_neg h]
      cases hp : parseP t with
      | none => rfl
      | some s' =>
        obtain ⟨h1, h2⟩ := parse_some hp
        rw [← h2, rawX_doc (parse_ok hp) (right_rt h1)] at hr
        cases hr
        exact absurd ⟨h1, h2⟩ h
end Go.Proofs.YtbcanlmpfhkklaaGreatDoor

/- The reference's word and number. -/

namespace Go.Proofs.YtbcanlmpfhkklaaGreatDoor
open Go.Ax
open Cel (c)
theorem qX61 {p : Prop} (h : p := by rw [List.length_drop]; omega) : p := h
theorem qX62 {p : Prop} (h : p := by first | exact GW.yes rfl rfl rfl rfl rfl rfl rfl qX12 | exact GW.no rfl rfl rfl rfl rfl rfl rfl | exact GW.none rfl rfl rfl rfl rfl | exact GW.may rfl rfl rfl rfl rfl rfl (fun hb => by (repeat (first | apply UW.yes rfl (gpf hb) | apply UW.no)); exact UW.nil qX12) | exact GW.may2 rfl rfl rfl rfl rfl rfl (fun _ hb => by (repeat (first | apply UW.yes rfl (gpf hb) | apply UW.no)); exact UW.nil qX12)) : p := h
set_option linter.unusedSimpArgs false
set_option linter.unusedVariables false
open Cel (c)

theorem str_cut (l : List UInt8) (a b : Nat) : (str l).extract a b = str ((l.drop a).take (b - a)) := by
  apply ByteArray.ext
  simp [str]
theorem wordx_calls (H : AHeap) (l w : List UInt8) (a : Nat) (hl : l.length ≤ 1000000) (ha : a ≤ 1000000) (hw : w.length ≤ 1000) :
    ACalls Tryz.prog 87 [strA l, .v (.int .i64 (a : Nat)), strA w] H (fun r H' => r = .tup [.v (.int .i64 ((if a + w.length + 1 ≤ l.length then a + w.length + 1 else a : Nat) : Int)), .v (.bool (wordX l a w))] ∧ H' = H) := by
  refine ACalls.quiet_keep ?_ (.tup (by simp only [List.forall_mem_cons]; exact ⟨.v _, .v _, fun _ h => absurd h List.not_mem_nil⟩))
  refine ACalls.of_body tok Tryz.func87 rfl Tryz.ntmps87 (Nat.le_of_ble_eq_true rfl) (fun base => ?_)
  refine rg fun K hK => ?_
  refine st qP222 <| st qP222 <| nt (hK _ _ ?_)
  clear hK K
  refine rg fun K hK => ?_
  refine st qP223 <| st qP223 <| st (by exact SD.s rfl rfl rfl (by exact strA_len tok rfl rfl rfl rfl)) <| st (by exact SD.s rfl rfl rfl (by exact AStepD.add (r := ((a + w.length : Nat) : Int)) rfl rfl rfl (by rw [Int.natCast_add]; exact IntWalk.i64_in _ (by omega)))) <| st (by exact SD.s rfl rfl rfl (by exact AStepD.add (r := ((a + w.length + 1 : Nat) : Int)) rfl rfl rfl (IntWalk.i64_in _ (by omega)))) <| st qP222 <| nt (hK _ _ ?_)
  clear hK K
  refine AW.seq_k (fun K1 hK1 => ?_)
  refine rg fun K hK => ?_
  refine st qP223 <| st (by exact SD.s rfl rfl rfl (by exact AStepD.bool (AStepD.lss rfl rfl rfl) (c := false) (decide_eq_false (by omega)))) <| st qP223 <| st (GW.p (l := [8]) qP318) <| st (GW.p (l := [0]) qP318) <| st (GW.p (l := [18]) (by first | exact GW.yes rfl rfl rfl rfl rfl rfl rfl (by exact strA_len tok rfl rfl rfl rfl) | exact GW.no rfl rfl rfl rfl rfl rfl rfl | exact GW.none rfl rfl rfl rfl rfl | exact GW.may rfl rfl rfl rfl rfl rfl (fun hb => by (repeat (first | apply UW.yes rfl (gpf hb) | apply UW.no)); exact UW.nil (by exact strA_len tok rfl rfl rfl rfl)) | exact GW.may2 rfl rfl rfl rfl rfl rfl (fun _ hb => by (repeat (first | apply UW.yes rfl (gpf hb) | apply UW.no)); exact UW.nil (by exact strA_len tok rfl rfl rfl rfl)))) <| st (GW.p (l := [17, 19]) qX176) <| st qP312 <| nt (hK _ _ ?_)
  clear hK K
  refine AW.cond _ rfl (fun hc => ?_) (fun hc => ?_)
  · (try simp only [Bool.or_eq_true, Bool.and_eq_true, Bool.or_eq_false_iff, Bool.and_eq_false_iff, Bool.not_eq_true', Bool.not_eq_false', decide_eq_true_eq, decide_eq_false_iff_not, Int.not_lt, Int.not_le] at hc)
    have hno : ¬ a + w.length + 1 ≤ l.length := by omega
    refine rg fun K hK => ?_
    refine st qP223 <| st qP222 <| st qP222 <| nt (hK _ _ ?_)
    clear hK K
    refine AW.ret (RetQ.mk (.inr rfl) (retA_tmp rfl qP21 (retA_tmp rfl qP21 retA_nil)) ⟨?_, qP24⟩)
    rw [if_neg hno, wordX, decide_eq_false hno]; rfl
  · (try simp only [Bool.or_eq_true, Bool.and_eq_true, Bool.or_eq_false_iff, Bool.and_eq_false_iff, Bool.not_eq_true', Bool.not_eq_false', decide_eq_true_eq, decide_eq_false_iff_not, Int.not_lt, Int.not_le] at hc)
    have hyes : a + w.length + 1 ≤ l.length := by omega
    refine AW.skip ?_
    refine hK1 _ _ ?_; try clear hK1 K1
    refine AW.seq_k (fun K hK => ?_)
    apply AW.draw mixed [_, _, _, _, _, _, _, _, _, _] [] [_] [(0, 0), (1, 0), (2, 0), (3, 0), (4, 0), (5, 0), (6, 0), (7, 0), (8, 0), (9, 0)] rfl rfl rfl qP33
    · refine ⟨?_, ?_, ?_, ?_, ?_, ?_, ?_, ?_, ?_, ?_⟩
      · refine Ob.mk _ [8] 0 rfl rfl (restr_cons qP21 restr_nil) rfl ?_
        simp only [List.getD_cons_zero, List.getD_cons_succ]
        exact GStep.plain rfl qP215
      · refine Ob.mk _ [0] 0 rfl rfl (restr_cons qP21 restr_nil) rfl ?_
        simp only [List.getD_cons_zero, List.getD_cons_succ]
        exact GStep.plain rfl qP215
      · refine Ob.mk _ [1] 0 rfl rfl (restr_cons qP21 restr_nil) rfl ?_
        simp only [List.getD_cons_zero, List.getD_cons_succ]
        exact GStep.plain rfl qP215
      · refine Ob.mk _ [8] 0 rfl rfl (restr_cons qP21 restr_nil) rfl ?_
        simp only [List.getD_cons_zero, List.getD_cons_succ]
        exact GStep.plain rfl qP215
      · refine Ob.mk _ [24, 25, 26] 0 rfl rfl (restr_cons qP21 (restr_cons qP21 (restr_cons qP21 restr_nil))) rfl ?_
        simp only [List.getD_cons_zero, List.getD_cons_succ]
        exact GStep.plain rfl (by exact AStepD.val (AStepD.slice_str' (l := a) (h := a + w.length + 1) tok rfl rfl rfl rfl rfl rfl rfl rfl (by omega) (by rw [str_size]; omega)) (y := strA ((l.drop a).take (w.length + 1))) (by rw [str_cut, show a + w.length + 1 - a = w.length + 1 by omega]))
      · refine Ob.mk _ [2] 0 rfl rfl (restr_cons qP21 restr_nil) rfl ?_
        simp only [List.getD_cons_zero, List.getD_cons_succ]
        exact GStep.plain rfl qP215
      · refine Ob.mk _ [28] 0 rfl rfl (restr_cons qP21 restr_nil) rfl ?_
        simp only [List.getD_cons_zero, List.getD_cons_succ]
        exact GStep.plain rfl (by exact strA_add w [32] rfl rfl rfl (by simp only [List.length_cons, List.length_nil]; omega))
      · refine Ob.mk _ [27, 29] 0 rfl rfl (restr_cons qP21 (restr_cons qP21 restr_nil)) rfl ?_
        simp only [List.getD_cons_zero, List.getD_cons_succ]
        exact GStep.plain rfl (by exact AStepD.bool (AStepD.str_eql rfl rfl rfl) (c := wordX l a w) (by rw [str_list, str_list, wordX, decide_eq_true hyes, Bool.true_and]))
      · refine Ob.mk _ [23] 0 rfl rfl (restr_cons qP21 restr_nil) rfl ?_
        simp only [List.getD_cons_zero, List.getD_cons_succ]
        exact GStep.plain rfl qP214
      · refine Ob.mk _ [30] 0 rfl rfl (restr_cons qP21 restr_nil) rfl ?_
        simp only [List.getD_cons_zero, List.getD_cons_succ]
        exact GStep.plain rfl qP214
    refine hK _ _ ?_; clear hK K
    refine AW.frame qP38 qP39 ?_
    refine AW.ret (RetQ.mk (.inr rfl) (retA_tmp rfl qP21 (retA_tmp rfl qP21 retA_nil)) ⟨?_, qP24⟩)
    rw [if_pos hyes]; rfl
theorem at_drop (l : List UInt8) (b j : Nat) : (l.drop b).getD j 0 = l.getD (b + j) 0 := by
  rw [List.getD_eq_getElem?_getD, List.getD_eq_getElem?_getD, List.getElem?_drop]
theorem num_more {l : List UInt8} {b j : Nat} (hj : j ≤ numK l b) : j < numK l b ↔ (b + j < l.length ∧ 48 ≤ at8 l (b + j) ∧ at8 l (b + j) ≤ 57 ∧ j < 16) := by
  constructor
  · intro h
    obtain ⟨h1, h2, h3⟩ := run_lt 16 (l.drop b) j h
    rw [at_drop] at h3
    rw [List.length_drop] at h2
    have := isD_of h3
    exact ⟨by omega, this.1, this.2, h1⟩
  · rintro ⟨h1, h2, h3, h4⟩
    rcases Nat.lt_or_ge j (numK l b) with h | h
    · exact h
    · obtain rfl : j = numK l b := by omega
      refine absurd ⟨h4, ?_, ?_⟩ (run_stop 16 (l.drop b))
      · rw [List.length_drop]; show numK l b < _; omega
      · show isD ((l.drop b).getD (numK l b) 0) = true
        rw [at_drop, isD]
        rw [at8] at h2 h3
        rw [decide_eq_true h2, decide_eq_true h3]; rfl
theorem run_all (f : Nat) (m : List UInt8) : ∀ (j : Nat), j ≤ runX f m → (m.take j).all isD = true := by
  intro j hj
  rw [List.all_eq_true]
  intro x hx
  obtain ⟨i, hi, rfl⟩ := List.getElem_of_mem hx
  rw [List.length_take] at hi
  obtain ⟨_, h2, h3⟩ := run_lt f m i (by omega)
  rw [List.getElem_take]
  rwa [List.getD_eq_getElem?_getD, List.getElem?_eq_getElem h2, Option.getD_some] at h3
theorem num_small {l : List UInt8} {b j : Nat} (hj : j ≤ numK l b) : valF 0 ((l.drop b).take j) < 10 ^ j := by
  have h1 := val_lt _ 0 (run_all 16 (l.drop b) j hj)
  have h2 := (run_le 16 (l.drop b)).2
  rw [List.length_take, Nat.min_eq_left (by exact Nat.le_trans hj h2), Nat.zero_add, Nat.one_mul] at h1
  exact h1
theorem num_next {l : List UInt8} {b j : Nat} (h : b + j < l.length) : valF 0 ((l.drop b).take (j + 1)) = 10 * valF 0 ((l.drop b).take j) + (at8 l (b + j) - 48) := by
  rw [take_next (l.drop b) j qX61, valF_snoc, at8, ← at_drop, List.getD_eq_getElem?_getD, List.getElem?_eq_getElem qX61, Option.getD_some]
theorem numx_calls (H : AHeap) (l : List UInt8) (b : Nat) (hl : l.length ≤ 1000000) (hb0 : b ≤ l.length) :
    ACalls Tryz.prog 88 [strA l, .v (.int .i64 (b : Nat))] H (fun r H' => r = .tup [.v (.int .i64 ((numN l b : Nat) : Int)), .v (.int .i64 ((b + numK l b : Nat) : Int)), .v (.bool (numOk l b))] ∧ H' = H) := by
  refine ACalls.quiet_keep ?_ (.tup (by simp only [List.forall_mem_cons]; exact ⟨.v _, .v _, .v _, fun _ h => absurd h List.not_mem_nil⟩))
  have hkl := run_le 16 (l.drop b)
  rw [List.length_drop] at hkl
  have hkl : numK l b ≤ 16 ∧ numK l b ≤ l.length - b := hkl
  refine ACalls.of_body tok Tryz.func88 rfl Tryz.ntmps88 (Nat.le_of_ble_eq_true rfl) (fun base => ?_)
  refine rg fun K hK => ?_
  refine st qP222 <| st qP222 <| st qP222 <| nt (hK _ _ ?_)
  clear hK K
  refine rg fun K hK => ?_
  refine st qP222 <| nt (hK _ _ ?_)
  clear hK K
  refine rg fun K hK => ?_
  refine st qP223 <| st qP222 <| nt (hK _ _ ?_)
  clear hK K
  refine AW.seq_k (fun K1 hK1 => ?_)
  refine AW.block ?_
  refine AW.loop_at (ι := Nat) (fun j => [(8, .v (.int .i64 ((b + j : Nat) : Int))), (7, .v (.int .i64 ((valF 0 ((l.drop b).take j) : Nat) : Int))), (1, .v (.int .i64 (b : Nat))), (0, strA l)])
    (fun j H' => j ≤ numK l b ∧ Keep H H') (fun j => numK l b - j) 0 qP217 ⟨Nat.zero_le _, qP24⟩ ?_
  rintro j H2 ⟨hj, hk2⟩
  have hmore := num_more hj
  have hsm := num_small hj
  refine AW.seq_k (fun K2 hK2 => ?_)
  refine rg fun K hK => ?_
  refine st qP223 <| st qP223 <| st (by exact SD.s rfl rfl rfl (by exact strA_len tok rfl rfl rfl rfl)) <| st qX138 <| st qP223 <| st (GW.p (l := [0]) qP318) <| st (GW.p (l := [8]) qP318) <| st (GW.p (l := [15, 16]) (by first | exact GW.yes rfl rfl rfl rfl rfl rfl rfl (by exact strA_index (i := b + j) tok rfl rfl rfl rfl rfl rfl (by simp only [Bool.and_eq_true, decide_eq_true_eq] at hb; omega)) | exact GW.no rfl rfl rfl rfl rfl rfl rfl | exact GW.none rfl rfl rfl rfl rfl | exact GW.may rfl rfl rfl rfl rfl rfl (fun hb => by (repeat (first | apply UW.yes rfl (gpf hb) | apply UW.no)); exact UW.nil (by exact strA_index (i := b + j) tok rfl rfl rfl rfl rfl rfl (by simp only [Bool.and_eq_true, decide_eq_true_eq] at hb; omega))) | exact GW.may2 rfl rfl rfl rfl rfl rfl (fun _ hb => by (repeat (first | apply UW.yes rfl (gpf hb) | apply UW.no)); exact UW.nil (by exact strA_index (i := b + j) tok rfl rfl rfl rfl rfl rfl (by simp only [Bool.and_eq_true, decide_eq_true_eq] at hb; omega))))) <| st (GW.p (l := [17]) qX62) <| st qP312 <| st qP223 <| st (GW.p (l := [0]) qP318) <| st (GW.p (l := [8]) qP318) <| st (GW.p (l := [21, 22]) (by first | exact GW.yes rfl rfl rfl rfl rfl rfl rfl (by exact strA_index (i := b + j) tok rfl rfl rfl rfl rfl rfl (by simp only [Bool.and_eq_true, decide_eq_true_eq] at hb; omega)) | exact GW.no rfl rfl rfl rfl rfl rfl rfl | exact GW.none rfl rfl rfl rfl rfl | exact GW.may rfl rfl rfl rfl rfl rfl (fun hb => by (repeat (first | apply UW.yes rfl (gpf hb) | apply UW.no)); exact UW.nil (by exact strA_index (i := b + j) tok rfl rfl rfl rfl rfl rfl (by simp only [Bool.and_eq_true, decide_eq_true_eq] at hb; omega))) | exact GW.may2 rfl rfl rfl rfl rfl rfl (fun _ hb => by (repeat (first | apply UW.yes rfl (gpf hb) | apply UW.no)); exact UW.nil (by exact strA_index (i := b + j) tok rfl rfl rfl rfl rfl rfl (by simp only [Bool.and_eq_true, decide_eq_true_eq] at hb; omega))))) <| st (GW.p (l := [23]) qX163) <| st qP312 <| st qP223 <| st (GW.p (l := [8]) qP318) <| st (GW.p (l := [1]) qP318) <| st (GW.p (l := [28]) (by first | exact GW.yes rfl rfl rfl rfl rfl rfl rfl (by exact AStepD.add (r := ((b + 16 : Nat) : Int)) rfl rfl rfl (IntWalk.i64_in _ (by omega))) | exact GW.no rfl rfl rfl rfl rfl rfl rfl | exact GW.none rfl rfl rfl rfl rfl | exact GW.may rfl rfl rfl rfl rfl rfl (fun hb => by (repeat (first | apply UW.yes rfl (gpf hb) | apply UW.no)); exact UW.nil (by exact AStepD.add (r := ((b + 16 : Nat) : Int)) rfl rfl rfl (IntWalk.i64_in _ (by omega)))) | exact GW.may2 rfl rfl rfl rfl rfl rfl (fun _ hb => by (repeat (first | apply UW.yes rfl (gpf hb) | apply UW.no)); exact UW.nil (by exact AStepD.add (r := ((b + 16 : Nat) : Int)) rfl rfl rfl (IntWalk.i64_in _ (by omega)))))) <| st (GW.p (l := [27, 29]) qX179) <| st qP312 <| nt (hK _ _ ?_)
  clear hK K
  refine AW.cond _ rfl (fun hc => ?_) (fun hc => ?_)
  · simp only [Bool.and_eq_true, decide_eq_true_eq] at hc
    have hlt : j < numK l b := hmore.2 ⟨by omega, by omega, by omega, by omega⟩
    obtain ⟨m1, m2, m3, m4⟩ := hmore.1 hlt
    have hnx := num_next (l := l) (b := b) (j := j) m1
    have hp : 10 ^ j ≤ 10 ^ 15 := Nat.pow_le_pow_right (by decide) (by omega)
    have hv : valF 0 ((l.drop b).take j) < 1000000000000000 := Nat.lt_of_lt_of_le hsm hp
    obtain ⟨v, hvv⟩ : ∃ v, v = valF 0 ((l.drop b).take j) := ⟨_, rfl⟩
    rw [← hvv] at hnx hv ⊢
    clear hc hmore hsm hp
    refine AW.skip ?_
    refine hK2 _ _ ?_; try clear hK2 K2
    refine AW.block ?_
    refine rg fun K hK => ?_
    refine st qP223 <| st (by exact SD.s rfl rfl rfl (by exact AStepD.mul (r := ((10 * v : Nat) : Int)) rfl rfl rfl (by rw [Int.natCast_mul]; exact IntWalk.i64_in _ (by omega)))) <| st qP223 <| st qP223 <| st (by exact SD.s rfl rfl rfl (by exact strA_index (i := b + j) tok rfl rfl rfl rfl rfl rfl m1)) <| st (by exact SD.s rfl rfl rfl (by exact AStepD.sub (r := ((at8 l (b + j) - 48 : Nat) : Int)) rfl rfl rfl (by rw [Int.ofNat_sub m2]; exact IntWalk.u8_in _ (by omega)))) <| st (by exact SD.s rfl rfl rfl (by exact AStepD.convert_int (r := ((at8 l (b + j) - 48 : Nat) : Int)) tok rfl rfl rfl rfl rfl (IntWalk.i64_in _ (by omega)))) <| st (by exact SD.s rfl rfl rfl (by exact AStepD.add (r := ((valF 0 ((l.drop b).take (j + 1)) : Nat) : Int)) rfl rfl rfl (by rw [hnx, Int.natCast_add]; exact IntWalk.i64_in _ (by omega)))) <| st qP222 <| nt (hK _ _ ?_)
    clear hK K
    refine AW.region ?_
    refine st qP223 <| st (by exact SD.s rfl rfl rfl (by exact AStepD.add (r := ((b + (j + 1) : Nat) : Int)) rfl rfl rfl (by rw [show ((b + j : Nat) : Int) + 1 = ((b + (j + 1) : Nat) : Int) by omega]; exact IntWalk.i64_in _ (by omega)))) <| st qP222 <| AL.nil ?_
    exact ⟨j + 1, by omega, qP217, hlt, hk2⟩
  · have hje : j = numK l b := by
      rcases Nat.lt_or_ge j (numK l b) with h | h
      · obtain ⟨m1, m2, m3, m4⟩ := hmore.1 h
        exfalso
        revert hc
        simp only [Bool.not_eq_false, Bool.and_eq_true, decide_eq_true_eq, imp_false]
        omega
      · omega
    subst hje
    refine AW.exit ?_
    refine hK1 _ _ ?_; try clear hK1 K1 hK2 K2
    have hvn : valF 0 ((l.drop b).take (numK l b)) = numN l b := rfl
    rw [hvn]
    obtain ⟨k, hk⟩ : ∃ k, k = numK l b := ⟨_, rfl⟩
    have hoke : numOk l b = (decide (0 < k) && (decide (at8 l b ≠ 48) || decide (k = 1))) := by rw [numOk, hk]
    rw [← hk] at hkl ⊢
    clear hmore hsm hvn hc hj
    refine rg fun K hK => ?_
    refine st qP223 <| st qP223 <| st qP223 <| st qP223 <| st (by exact SD.s rfl rfl rfl (by exact AStepD.bool (AStepD.gtr rfl rfl rfl) (c := decide (0 < k)) (decide_eq_decide.2 (by omega)))) <| st qP223 <| st (GW.p (l := [0]) qP318) <| st (GW.p (l := [1]) qP318) <| st (GW.p (l := [48, 49]) (by first | exact GW.yes rfl rfl rfl rfl rfl rfl rfl (by exact strA_index (i := b) tok rfl rfl rfl rfl rfl rfl (by simp only [decide_eq_true_eq] at hb; omega)) | exact GW.no rfl rfl rfl rfl rfl rfl rfl | exact GW.none rfl rfl rfl rfl rfl | exact GW.may rfl rfl rfl rfl rfl rfl (fun hb => by (repeat (first | apply UW.yes rfl (gpf hb) | apply UW.no)); exact UW.nil (by exact strA_index (i := b) tok rfl rfl rfl rfl rfl rfl (by simp only [decide_eq_true_eq] at hb; omega))) | exact GW.may2 rfl rfl rfl rfl rfl rfl (fun _ hb => by (repeat (first | apply UW.yes rfl (gpf hb) | apply UW.no)); exact UW.nil (by exact strA_index (i := b) tok rfl rfl rfl rfl rfl rfl (by simp only [decide_eq_true_eq] at hb; omega))))) <| st (GW.p (l := [50]) (by first | exact GW.yes rfl rfl rfl rfl rfl rfl rfl (by exact AStepD.bool (AStepD.neq rfl rfl rfl) (c := decide (at8 l b ≠ 48)) (decide_eq_decide.2 (by omega))) | exact GW.no rfl rfl rfl rfl rfl rfl rfl | exact GW.none rfl rfl rfl rfl rfl | exact GW.may rfl rfl rfl rfl rfl rfl (fun hb => by (repeat (first | apply UW.yes rfl (gpf hb) | apply UW.no)); exact UW.nil (by exact AStepD.bool (AStepD.neq rfl rfl rfl) (c := decide (at8 l b ≠ 48)) (decide_eq_decide.2 (by omega)))) | exact GW.may2 rfl rfl rfl rfl rfl rfl (fun _ hb => by (repeat (first | apply UW.yes rfl (gpf hb) | apply UW.no)); exact UW.nil (by exact AStepD.bool (AStepD.neq rfl rfl rfl) (c := decide (at8 l b ≠ 48)) (decide_eq_decide.2 (by omega)))))) <| st (GW.p (l := [51]) qP318) <| st (GW.p (l := [8]) qP318) <| st (GW.p (l := [1]) qP318) <| st (GW.p (l := [54]) (by first | exact GW.yes rfl rfl rfl rfl rfl rfl rfl (by exact AStepD.add (r := ((b + 1 : Nat) : Int)) rfl rfl rfl (IntWalk.i64_in _ (by omega))) | exact GW.no rfl rfl rfl rfl rfl rfl rfl | exact GW.none rfl rfl rfl rfl rfl | exact GW.may rfl rfl rfl rfl rfl rfl (fun hb => by (repeat (first | apply UW.yes rfl (gpf hb) | apply UW.no)); exact UW.nil (by exact AStepD.add (r := ((b + 1 : Nat) : Int)) rfl rfl rfl (IntWalk.i64_in _ (by omega)))) | exact GW.may2 rfl rfl rfl rfl rfl rfl (fun _ hb => by (repeat (first | apply UW.yes rfl (gpf hb) | apply UW.no)); exact UW.nil (by exact AStepD.add (r := ((b + 1 : Nat) : Int)) rfl rfl rfl (IntWalk.i64_in _ (by omega)))))) <| st (GW.p (l := [53, 55]) (by first | exact GW.yes rfl rfl rfl rfl rfl rfl rfl (by exact AStepD.bool (AStepD.eql rfl rfl rfl) (c := decide (k = 1)) (decide_eq_decide.2 (by omega))) | exact GW.no rfl rfl rfl rfl rfl rfl rfl | exact GW.none rfl rfl rfl rfl rfl | exact GW.may rfl rfl rfl rfl rfl rfl (fun hb => by (repeat (first | apply UW.yes rfl (gpf hb) | apply UW.no)); exact UW.nil (by exact AStepD.bool (AStepD.eql rfl rfl rfl) (c := decide (k = 1)) (decide_eq_decide.2 (by omega)))) | exact GW.may2 rfl rfl rfl rfl rfl rfl (fun _ hb => by (repeat (first | apply UW.yes rfl (gpf hb) | apply UW.no)); exact UW.nil (by exact AStepD.bool (AStepD.eql rfl rfl rfl) (c := decide (k = 1)) (decide_eq_decide.2 (by omega)))))) <| st (GW.p (l := [52, 56]) qX34) <| st qP312 <| st qP222 <| st qP222 <| st qP222 <| nt (hK _ _ ?_)
    clear hK K
    refine AW.ret (RetQ.mk (.inr rfl) (retA_tmp rfl qP21 (retA_tmp rfl qP21 (retA_tmp rfl qP21 retA_nil))) ⟨?_, hk2⟩)
    rw [hoke]; rfl
end Go.Proofs.YtbcanlmpfhkklaaGreatDoor

/- The reference's pairs. -/

namespace Go.Proofs.YtbcanlmpfhkklaaGreatDoor
open Go.Ax
open Cel (c)
theorem qX71 {p : Prop} (h : p := by first | exact GW.yes rfl rfl rfl rfl rfl rfl rfl qP23 | exact GW.no rfl rfl rfl rfl rfl rfl rfl | exact GW.none rfl rfl rfl rfl rfl | exact GW.may rfl rfl rfl rfl rfl rfl (fun hb => by (repeat (first | apply UW.yes rfl (gpf hb) | apply UW.no)); exact UW.nil qP23) | exact GW.may2 rfl rfl rfl rfl rfl rfl (fun _ hb => by (repeat (first | apply UW.yes rfl (gpf hb) | apply UW.no)); exact UW.nil qP23)) : p := h
set_option linter.unusedSimpArgs false
set_option linter.unusedVariables false
open Cel (c)

def failX (l : List UInt8) : Bool → Nat → List (List UInt8) → Nat
  | _, a, [] => a
  | f, a, w :: ws => match pairX l f a w with
    | none => if gapX l f a then plX f a else a
    | some p => failX l false p.2 ws
def pairsA (l : List UInt8) (ws : List (List UInt8)) : AV := match pairsX l true 0 ws with
  | some p => .tup [vecA p.1, .v (.int .i64 (p.2 : Nat)), .v (.bool true)]
  | none => .tup [vecA ([] : List Int), .v (.int .i64 (failX l true 0 ws : Nat)), .v (.bool false)]
theorem pairsA_plain (l : List UInt8) (ws : List (List UInt8)) : Plain (pairsA l ws) := by
  rw [pairsA]
  split <;> exact .tup (by simp only [List.forall_mem_cons]; exact ⟨vecA_plain _, .v _, .v _, fun _ h => absurd h List.not_mem_nil⟩)
theorem pairsA_some {l : List UInt8} {ws : List (List UInt8)} {p : List Int × Nat} (h : pairsX l true 0 ws = some p) : pairsA l ws = .tup [vecA p.1, .v (.int .i64 (p.2 : Nat)), .v (.bool true)] := by rw [pairsA, h]
theorem pairsA_none {l : List UInt8} {ws : List (List UInt8)} (h : pairsX l true 0 ws = none) : pairsA l ws = .tup [vecA ([] : List Int), .v (.int .i64 (failX l true 0 ws : Nat)), .v (.bool false)] := by rw [pairsA, h]
theorem sub_tup3 {x y : AV} (h : SubV x y) (a b : Value) : SubV (.tup [x, .v a, .v b]) (.tup [y, .v a, .v b]) := by
  intro ρ I u hu
  cases hu with
  | @tup cs vs hl hv =>
    refine .tup (by rw [hl]; rfl) fun i a w ha hw => ?_
    match i with
    | 0 => cases ha; exact h ρ I w (hv 0 x w rfl hw)
    | j + 1 => exact hv (j + 1) a w ha hw
theorem w_k {l w : List UInt8} {a : Nat} (h : wordX l a w = true) : a + w.length + 1 ≤ l.length := by
  rw [wordX, Bool.and_eq_true, decide_eq_true_eq] at h; exact h.1
set_option maxHeartbeats 4000000 in
theorem pairsx_calls (H : AHeap) (l : List UInt8) (ws : List (List UInt8)) (hl : l.length ≤ 1000000) (hws : ws.length ≤ 1000) (hw : ∀ w ∈ ws, w.length ≤ 1000) :
    ACalls Tryz.prog 64 [strA l, vecA ws] H (fun r H' => r = pairsA l ws ∧ H' = H) := by
  refine ACalls.quiet_keep ?_ (pairsA_plain _ _)
  refine ACalls.of_body tok Tryz.func64 rfl Tryz.ntmps64 (Nat.le_of_ble_eq_true rfl) (fun base => ?_)
  refine rg fun K hK => ?_
  refine st qP222 <| st qP222 <| st qP222 <| nt (hK _ _ ?_)
  clear hK K
  refine rg fun K hK => ?_
  refine st qP222 <| nt (hK _ _ ?_)
  clear hK K
  refine rg fun K hK => ?_
  refine st qP222 <| nt (hK _ _ ?_)
  clear hK K
  refine AW.seq_k (fun K1 hK1 => ?_)
  refine rg fun K hK => ?_
  refine st qP222 <| nt (hK _ _ ?_)
  clear hK K
  refine AW.block ?_
  refine AW.loop_at (ι := Nat × Nat × AV) (fun x => [(9, .v (.int .i64 (x.1 : Nat))), (8, .v (.int .i64 (x.2.1 : Nat))), (7, x.2.2), (1, vecA ws), (0, strA l)])
    (fun x H' => x.1 ≤ ws.length ∧ x.2.1 ≤ l.length ∧ ∃ ns : List Int, ns.length = x.1 ∧ pairsX l true 0 ws = (pairsX l (decide (x.1 = 0)) x.2.1 (ws.drop x.1)).map (fun q => (ns ++ q.1, q.2)) ∧ failX l true 0 ws = failX l (decide (x.1 = 0)) x.2.1 (ws.drop x.1) ∧ Lst 3 H.next H' x.2.2 ns ∧ Keep H H') (fun x => ws.length - x.1) (0, 0, .v (.slice none 0 0)) qP217
    ⟨Nat.zero_le _, Nat.zero_le _, [], rfl, by simp, rfl, .nil, qP24⟩ ?_
  rintro ⟨k, a, yO⟩ H2 ⟨hk, ha, ns, hnl, hinv, hfl, hyO, hkp⟩
  dsimp only at hk ha hnl hinv hfl hyO ⊢
  have hyO1 := hyO.one
  refine AW.seq_k (fun K2 hK2 => ?_)
  refine rg fun K hK => ?_
  refine st qP223 <| st qP223 <| st qP224 <| st qX138 <| nt (hK _ _ ?_)
  clear hK K
  refine AW.cond _ rfl (fun hc => ?_) (fun hc => ?_)
  · (try simp only [Bool.or_eq_true, Bool.and_eq_true, Bool.or_eq_false_iff, Bool.and_eq_false_iff, Bool.not_eq_true', Bool.not_eq_false', decide_eq_true_eq, decide_eq_false_iff_not, Int.not_lt, Int.not_le] at hc)
    have hkl : k < ws.length := by omega
    clear hc
    rw [List.drop_eq_getElem_cons hkl, pairsX] at hinv
    rw [List.drop_eq_getElem_cons hkl, failX] at hfl
    obtain ⟨w, hwe⟩ : ∃ w, w = ws[k] := ⟨_, rfl⟩
    have hwl := hw w (hwe ▸ List.getElem_mem hkl)
    obtain ⟨f, hf⟩ : ∃ f, f = decide (k = 0) := ⟨_, rfl⟩
    rw [← hwe, ← hf] at hinv hfl
    refine AW.skip ?_
    refine hK2 _ _ ?_; try clear hK2 K2
    refine AW.seq_k (fun K3 hK3 => ?_)
    refine AW.block ?_
    refine AW.seq_k (fun K4 hK4 => ?_)
    have hgo : gapX l f a = true → ∀ T', SubT T' [(9, .v (.int .i64 (k : Nat))), (8, .v (.int .i64 (plX f a : Nat))), (7, yO), (1, vecA ws), (0, strA l)] → K4 T' H2 := fun hg T' hT' => by
      have hpx : pairX l f a w = if wordX l (plX f a) w && numOk l (plX f a + w.length + 1) then some (((numN l (plX f a + w.length + 1) : Nat) : Int), plX f a + w.length + 1 + numK l (plX f a + w.length + 1)) else none := by rw [pairX, hg, Bool.true_and]
      have hpb : plX f a ≤ l.length := by
        cases f with
        | true => exact ha
        | false =>
          rw [gapX, Bool.false_or, Bool.and_eq_true, decide_eq_true_eq] at hg
          exact hg.1
      obtain ⟨p, hp⟩ : ∃ p, p = plX f a := ⟨_, rfl⟩
      rw [← hp] at hpx hpb hT'
      rw [hpx, hg, if_pos rfl, ← hp] at hfl
      rw [hpx] at hinv
      refine hK4 _ _ ?_
      refine AW.sub hT' ?_
      clear hT' hK4 K4
      refine rg fun K hK => ?_
      refine st qP223 <| st qP223 <| st qP223 <| st qP223 <| st qX45 <| st (by exact SD.s rfl rfl rfl (by exact AStepD.load_one_ip tok rfl rfl rfl rfl rfl (show _ = some (strA w) by rw [hwe]; rfl))) <| st (by exact SD.s rfl rfl rfl (by exact AStepD.callf rfl en87 rfl (wordx_calls _ l w p hl (by omega) hwl))) <| st qP223 <| st qP220 <| st qP220 <| st qP222 <| st qP222 <| nt (hK _ _ ?_)
      clear hK K
      refine AW.seq_k (fun K6 hK6 => ?_)
      refine rg fun K hK => ?_
      refine st qP223 <| st (by exact SD.s rfl rfl rfl (by first | exact AStepD.not rfl rfl | exact AStepD.neg rfl rfl (by first | exact IntWalk.i64_in _ (by omega) | exact IntWalk.i64_in _ (by simp only [Bool.or_eq_true, Bool.and_eq_true, Bool.or_eq_false_iff, Bool.and_eq_false_iff, Bool.not_eq_true', Bool.not_eq_false', decide_eq_true_eq, decide_eq_false_iff_not, Int.not_lt, Int.not_le, beq_iff_eq] at *; omega) | exact rfl))) <| nt (hK _ _ ?_)
      clear hK K
      cases hwd : wordX l p w with
      | false =>
        rw [hwd] at hinv hfl
        have hno : pairsX l true 0 ws = none := hinv
        have hfl : failX l true 0 ws = p := hfl
        refine AW.cond_true rfl rfl ?_
        refine rg fun K hK => ?_
        refine st qP223 <| st qP222 <| st qP222 <| st qP222 <| nt (hK _ _ ?_)
        clear hK K
        refine AW.ret (RetQ.sub (.inr rfl) (retA_tmp rfl qP21 (retA_tmp rfl qP21 (retA_tmp rfl qP21 retA_nil))) (sub_tup3 (SubV.nil_vecA (α := Int)) _ _) ⟨?_, hkp⟩)
        rw [pairsA_none hno, hfl]
      | true =>
        rw [hwd, Bool.true_and] at hinv hfl
        have hwk := w_k hwd
        rw [if_pos hwk]
        have hkl2 := run_le 16 (l.drop (p + w.length + 1))
        rw [List.length_drop] at hkl2
        have hkl2 : numK l (p + w.length + 1) ≤ 16 ∧ numK l (p + w.length + 1) ≤ l.length - (p + w.length + 1) := hkl2
        have hsm := num_small (l := l) (b := p + w.length + 1) (Nat.le_refl _)
        have hsm2 : 10 ^ numK l (p + w.length + 1) ≤ 10 ^ 16 := Nat.pow_le_pow_right (by decide) hkl2.1
        refine AW.cond_false rfl rfl (AW.skip ?_)
        refine hK6 _ _ ?_; try clear hK6 K6
        refine rg fun K hK => ?_
        refine st qP223 <| st qP223 <| st (by exact SD.s rfl rfl rfl (by exact AStepD.callf rfl en88 rfl (numx_calls _ l (p + w.length + 1) hl hwk))) <| st qP223 <| st qP220 <| st qP220 <| st qP220 <| st qP222 <| st qP222 <| st qP222 <| nt (hK _ _ ?_)
        clear hK K
        refine AW.seq_k (fun K7 hK7 => ?_)
        refine rg fun K hK => ?_
        refine st qP223 <| st (by exact SD.s rfl rfl rfl (by first | exact AStepD.not rfl rfl | exact AStepD.neg rfl rfl (by first | exact IntWalk.i64_in _ (by omega) | exact IntWalk.i64_in _ (by simp only [Bool.or_eq_true, Bool.and_eq_true, Bool.or_eq_false_iff, Bool.and_eq_false_iff, Bool.not_eq_true', Bool.not_eq_false', decide_eq_true_eq, decide_eq_false_iff_not, Int.not_lt, Int.not_le, beq_iff_eq] at *; omega) | exact rfl))) <| nt (hK _ _ ?_)
        clear hK K
        cases hok : numOk l (p + w.length + 1) with
        | false =>
          rw [hok] at hinv hfl
          have hno : pairsX l true 0 ws = none := hinv
          have hfl : failX l true 0 ws = p := hfl
          refine AW.cond_true rfl rfl ?_
          refine rg fun K hK => ?_
          refine st qP223 <| st qP222 <| st qP222 <| st qP222 <| nt (hK _ _ ?_)
          clear hK K
          refine AW.ret (RetQ.sub (.inr rfl) (retA_tmp rfl qP21 (retA_tmp rfl qP21 (retA_tmp rfl qP21 retA_nil))) (sub_tup3 (SubV.nil_vecA (α := Int)) _ _) ⟨?_, hkp⟩)
          rw [pairsA_none hno, hfl]
        | true =>
          rw [hok, if_pos rfl] at hinv hfl
          obtain ⟨n, hn⟩ : ∃ n, n = numN l (p + w.length + 1) := ⟨_, rfl⟩
          rw [← hn] at hinv hfl ⊢
          refine AW.cond_false rfl rfl (AW.skip ?_)
          refine hK7 _ _ ?_; try clear hK7 K7
          refine rg fun K hK => ?_
          refine st qP223 <| st qP223 <| st (by exact SD.s rfl rfl rfl (by exact AStepD.vec_flat (l := [(n : Int)]) (AStepD.buildSlice1 tok rfl rfl rfl rfl (show _ = 1 from rfl) qP21 qP21 rfl (by decide) qP213) rfl rfl rfl)) <| st (by exact SD.s rfl rfl rfl (by exact AStepD.append_lst (bk := 64) (l := ns) (y := yO) (b := H.next) (m := (ns ++ [(n : Int)]).length) tok rfl rfl hyO rfl rfl rfl rfl rfl rfl (show _ = 1 from rfl) rfl rfl Ax.Src.vec rfl Nat.zero_lt_one (flat_ones _) (by simp; omega) (by simp; omega) (by simp) (flat_append ns [(n : Int)]).symm)) <| st qP222 <| nt (hK _ _ ?_)
          clear hK K
          refine AW.region ?_
          refine st qP223 <| st qP222 <| AL.nil ?_
          refine hK3 _ _ ?_; try clear hK3 K3
          refine AW.region ?_
          refine st qP223 <| st (by exact SD.s rfl rfl rfl (by exact AStepD.add (r := ((k + 1 : Nat) : Int)) rfl rfl rfl (IntWalk.i64_in _ (by omega)))) <| st qP222 <| AL.nil ?_
          refine ⟨(k + 1, p + w.length + 1 + numK l (p + w.length + 1), .sl H2.next 0 (ns ++ [(n : Int)]).length 1), by show ws.length - (k + 1) < ws.length - k; omega, qP217, hkl, by show p + w.length + 1 + _ ≤ _; omega, ns ++ [(n : Int)], by rw [List.length_append, hnl]; rfl, ?_, ?_, ?_, ?_⟩
          · rw [hinv, Option.map_map, show decide (k + 1 = 0) = false from decide_eq_false (by omega)]
            congr 1
            funext q
            simp
          · rw [hfl, show decide (k + 1 = 0) = false from decide_eq_false (by omega)]
          · exact hyO.app hkp.1 (by simp) rfl
          · refine ⟨by simp only [zd, zc]; have := hkp.1; omega, fun z hz => ?_⟩
            have hn := hkp.1
            rw [z9 _ (hyO.lab_ne hz), AHeap.get_new_ne _ _ (by omega)]; exact hkp.2 z hz
    refine rg fun K hK => ?_
    refine st qP223 <| st (by exact SD.s rfl rfl rfl qX117) <| nt (hK _ _ ?_)
    clear hK K
    rcases Nat.eq_zero_or_pos k with h0 | h0
    · subst h0
      rw [show f = true from hf.trans rfl] at hgo
      refine AW.cond_false rfl rfl (AW.skip ?_)
      exact hgo rfl _ qP217
    · have hff : f = false := hf.trans (decide_eq_false (by omega))
      subst hff
      refine AW.cond_true rfl (decide_eq_true (by omega)) ?_
      refine AW.seq_k (fun K5 hK5 => ?_)
      refine rg fun K hK => ?_
      refine st qP223 <| st qP223 <| st (by exact SD.s rfl rfl rfl (by exact strA_len tok rfl rfl rfl rfl)) <| st qX130 <| st qP223 <| st (GW.p (l := [0]) qP318) <| st (GW.p (l := [8]) qP318) <| st (GW.p (l := [28, 29]) (by first | exact GW.yes rfl rfl rfl rfl rfl rfl rfl (by exact strA_index (i := a) tok rfl rfl rfl rfl rfl rfl (by simp only [decide_eq_false_iff_not] at hb; omega)) | exact GW.no rfl rfl rfl rfl rfl rfl rfl | exact GW.none rfl rfl rfl rfl rfl | exact GW.may rfl rfl rfl rfl rfl rfl (fun hb => by (repeat (first | apply UW.yes rfl (gpf hb) | apply UW.no)); exact UW.nil (by exact strA_index (i := a) tok rfl rfl rfl rfl rfl rfl (by simp only [decide_eq_false_iff_not] at hb; omega))) | exact GW.may2 rfl rfl rfl rfl rfl rfl (fun _ hb => by (repeat (first | apply UW.yes rfl (gpf hb) | apply UW.no)); exact UW.nil (by exact strA_index (i := a) tok rfl rfl rfl rfl rfl rfl (by simp only [decide_eq_false_iff_not] at hb; omega))))) <| st (GW.p (l := [30]) qX71) <| st qP312 <| nt (hK _ _ ?_)
      clear hK K
      refine AW.cond _ rfl (fun hc => ?_) (fun hc => ?_)
      · have hg : gapX l false a = false := by
          rw [gapX, Bool.false_or, ← Bool.not_eq_true, Bool.and_eq_true, decide_eq_true_eq, decide_eq_true_eq]
          simp only [Bool.or_eq_true, decide_eq_true_eq] at hc
          omega
        have hpx : pairX l false a w = none := by rw [pairX, hg]; rfl
        rw [hpx, hg] at hfl
        rw [hpx] at hinv
        have hno : pairsX l true 0 ws = none := hinv
        have hfl : failX l true 0 ws = a := hfl
        refine rg fun K hK => ?_
        refine st qP223 <| st qP222 <| st qP222 <| st qP222 <| nt (hK _ _ ?_)
        clear hK K
        refine AW.ret (RetQ.sub (.inr rfl) (retA_tmp rfl qP21 (retA_tmp rfl qP21 (retA_tmp rfl qP21 retA_nil))) (sub_tup3 (SubV.nil_vecA (α := Int)) _ _) ⟨?_, hkp⟩)
        rw [pairsA_none hno, hfl]
      · have hg : gapX l false a = true := by
          rw [gapX, Bool.false_or, Bool.and_eq_true, decide_eq_true_eq, decide_eq_true_eq]
          simp only [Bool.or_eq_false_iff, decide_eq_false_iff_not] at hc
          omega
        refine AW.skip ?_
        refine hK5 _ _ ?_; try clear hK5 K5
        refine AW.region ?_
        refine st qP223 <| st (by exact SD.s rfl rfl rfl (by exact AStepD.add (r := ((a + 1 : Nat) : Int)) rfl rfl rfl (IntWalk.i64_in _ (by omega)))) <| st qP222 <| AL.nil ?_
        exact hgo hg _ qP217
  · (try simp only [Bool.or_eq_true, Bool.and_eq_true, Bool.or_eq_false_iff, Bool.and_eq_false_iff, Bool.not_eq_true', Bool.not_eq_false', decide_eq_true_eq, decide_eq_false_iff_not, Int.not_lt, Int.not_le] at hc)
    obtain rfl : k = ws.length := by omega
    rw [List.drop_length, pairsX] at hinv
    have hyes : pairsX l true 0 ws = some (ns, a) := by rw [hinv]; simp
    refine AW.exit ?_
    refine hK1 _ _ ?_; try clear hK1 K1 hK2 K2
    refine AW.vecL (s := 7) hyO rfl ?_
    refine rg fun K hK => ?_
    refine st qP223 <| st qP223 <| st qP222 <| st qP222 <| st qP222 <| nt (hK _ _ ?_)
    clear hK K
    refine AW.ret (RetQ.mk (.inr rfl) (retA_tmp rfl qP21 (retA_tmp rfl qP21 (retA_tmp rfl qP21 retA_nil))) ⟨?_, by rw [AHeap.delv_next]; exact hkp.1, fun z hz => by rw [AHeap.delv_get _ (hyO.lab_ne hz)]; exact hkp.2 z hz⟩)
    rw [pairsA_some hyes]; rfl
end Go.Proofs.YtbcanlmpfhkklaaGreatDoor

/- The reference's line. -/

namespace Go.Proofs.YtbcanlmpfhkklaaGreatDoor
open Go.Ax
open Cel (c)
theorem qX81 {p : Prop} (h : p := by exact SD.s rfl rfl rfl qP35) : p := h
set_option linter.unusedSimpArgs false
set_option linter.unusedVariables false
open Cel (c)

def LnO (H : AHeap) (S : Nat) (y : AV) (o : Option Stt) (H' : AHeap) : Prop := ∃ y', (∀ s', o = some s' → StX H' S y' s') ∧ BSt S H y H' y'
theorem LnO.no {H : AHeap} {S : Nat} {y : AV} {o : Option Stt} (h : o = Option.none) {H' : AHeap} (b : BSt S H y H' y) : LnO H S y o H' := ⟨y, fun s' e => absurd (h.symm.trans e) (by simp), b⟩
theorem bst_set {H H' : AHeap} {S : Nat} {y : AV} (hn : H.next ≤ H'.next) (hq : ∀ q, q < H.next → q ≠ S → H'.get q = H.get q) : BSt S H y H' y := ⟨hn, fun q h1 h _ => hq q h1 h, fun _ h => .inl h⟩
theorem LnO.put {H H' : AHeap} {S : Nat} {y : AV} {s s2 : Stt} {o : Option Stt} (h : StX H S y s) (ho : ∀ s', o = some s' → s' = s2) (hk : s2.known = s.known) (hn : H.next ≤ H'.next) (hg : H'.get S = some (.cells 33 (s2.cs y))) (hq : ∀ q, q < H.next → q ≠ S → H'.get q = H.get q) : LnO H S y o H' := by
  refine ⟨y, fun s' e => ?_, bst_set hn hq⟩
  rw [ho s' e]
  exact ⟨Nat.lt_of_lt_of_le h.lt hn, hg, by rw [hk]; exact h.kn.keep (fun D hD hDn _ => hq D hDn (by omega)) hn⟩
theorem W5_len : ∀ w ∈ W5, w.length ≤ 1000 := by decide
theorem W3_len : ∀ w ∈ W3, w.length ≤ 1000 := by decide
theorem W2_len : ∀ w ∈ W2, w.length ≤ 1000 := by decide
theorem pairsc_some {l : List UInt8} {ws : List (List UInt8)} {p : List Int × Nat} (H : AHeap) (hl : l.length ≤ 1000000) (hws : ws.length ≤ 1000) (hw : ∀ w ∈ ws, w.length ≤ 1000) (h : pairsX l true 0 ws = some p) :
    ACalls Tryz.prog 64 [strA l, vecA ws] H (fun r H' => r = .tup [vecA p.1, .v (.int .i64 (p.2 : Nat)), .v (.bool true)] ∧ H' = H) := by
  rw [← pairsA_some h]; exact pairsx_calls H l ws hl hws hw
theorem pairsc_none {l : List UInt8} {ws : List (List UInt8)} (H : AHeap) (hl : l.length ≤ 1000000) (hws : ws.length ≤ 1000) (hw : ∀ w ∈ ws, w.length ≤ 1000) (h : pairsX l true 0 ws = none) :
    ACalls Tryz.prog 64 [strA l, vecA ws] H (fun r H' => r = .tup [vecA ([] : List Int), .v (.int .i64 (failX l true 0 ws : Nat)), .v (.bool false)] ∧ H' = H) := by
  rw [← pairsA_none h]; exact pairsx_calls H l ws hl hws hw
set_option maxHeartbeats 4000000 in
theorem lineH_calls (H : AHeap) (S : Nat) (y : AV) (s : Stt) (hs : StX H S y s) (ok : s.Ok) (l : List UInt8) (hl : l.length ≤ 1000000) :
    ACalls Tryz.prog 44 [.ptr S 0, strA l, .v (.bool true)] H (fun r H' => r = .v (.bool (lineX true s l).isSome) ∧ LnO H S y (lineX true s l) H') := by
  have hg := hs.get
  have hlt := hs.lt
  have hft := ok.ft
  have hy1 : y.one = true := hs.kn.one
  refine ACalls.of_body tok Tryz.func44 rfl Tryz.ntmps44 (Nat.le_of_ble_eq_true rfl) (fun base => ?_)
  refine rg fun K hK => ?_
  refine st qP222 <| nt (hK _ _ ?_)
  clear hK K
  cases hp : pairsX l true 0 W5 with
  | none =>
    have hL : lineX true s l = none := by rw [lineX, if_pos rfl, hp]
    refine rg fun K hK => ?_
    refine st qP223 <| st (by exact SD.s rfl rfl rfl (by exact AStepD.vec_flat (l := W5) (AStepD.buildSlice_seq tok rfl rfl rfl rfl (show _ = 1 from rfl) (map_p qP21 (map_p qP21 (map_p qP21 (map_p qP21 (map_p qP21 map_n))))) rfl (by decide) (by decide) rfl qP32 qP213) rfl rfl rfl)) <| st (by exact SD.s rfl rfl rfl (by exact AStepD.callf rfl en64 rfl (pairsc_none _ hl (by decide) W5_len hp))) <| st qP223 <| st qP220 <| st qP220 <| st qP220 <| st qP222 <| st qP222 <| st qP222 <| nt (hK _ _ ?_)
    clear hK K
    refine AW.seq_k (fun K1 hK1 => ?_)
    refine rg fun K hK => ?_
    refine st qP223 <| nt (hK _ _ ?_)
    clear hK K
    refine AW.cond_true rfl rfl ?_
    refine AW.seq_k (fun K2 hK2 => ?_)
    refine rg fun K hK => ?_
    refine st qP223 <| nt (hK _ _ ?_)
    clear hK K
    refine AW.cond_false rfl rfl (AW.skip ?_)
    refine hK2 _ _ ?_; try clear hK2 K2
    refine rg fun K hK => ?_
    refine st qP223 <| st qP223 <| st (GW.p (l := [8]) qP318) <| st (GW.p (l := [1]) qP318) <| st (GW.p (l := [55]) (by first | exact GW.yes rfl rfl rfl rfl rfl rfl rfl (by exact strA_len tok rfl rfl rfl rfl) | exact GW.no rfl rfl rfl rfl rfl rfl rfl | exact GW.none rfl rfl rfl rfl rfl | exact GW.may rfl rfl rfl rfl rfl rfl (fun hb => by (repeat (first | apply UW.yes rfl (gpf hb) | apply UW.no)); exact UW.nil (by exact strA_len tok rfl rfl rfl rfl)) | exact GW.may2 rfl rfl rfl rfl rfl rfl (fun _ hb => by (repeat (first | apply UW.yes rfl (gpf hb) | apply UW.no)); exact UW.nil (by exact strA_len tok rfl rfl rfl rfl)))) <| st (GW.p (l := [54, 56]) qX33) <| st qP312 <| st qP222 <| nt (hK _ _ ?_)
    clear hK K
    exact AW.ret (RetQ.mk (.inr rfl) (retA_tmp rfl qP21 retA_nil) ⟨by rw [hL]; rfl, .no hL (.refl ..)⟩)
  | some p =>
    obtain ⟨ns, en⟩ := p
    obtain ⟨hnl, hel⟩ := pairsX_len l W5 true 0 ns en (Nat.zero_le _) hp
    obtain ⟨a, b, cc, d, e, rfl⟩ : ∃ a b cc d e, ns = [a, b, cc, d, e] := by
      match ns, hnl with
      | [a, b, cc, d, e], _ => exact ⟨a, b, cc, d, e, rfl⟩
    have hL : lineX true s l = if en = l.length then some (hdS s [a, b, cc, d, e]) else none := by rw [lineX, if_pos rfl, hp]
    refine rg fun K hK => ?_
    refine st qP223 <| st (by exact SD.s rfl rfl rfl (by exact AStepD.vec_flat (l := W5) (AStepD.buildSlice_seq tok rfl rfl rfl rfl (show _ = 1 from rfl) (map_p qP21 (map_p qP21 (map_p qP21 (map_p qP21 (map_p qP21 map_n))))) rfl (by decide) (by decide) rfl qP32 qP213) rfl rfl rfl)) <| st (by exact SD.s rfl rfl rfl (by exact AStepD.callf rfl en64 rfl (pairsc_some _ hl (by decide) W5_len hp))) <| st qP223 <| st qP220 <| st qP220 <| st qP220 <| st qP222 <| st qP222 <| st qP222 <| nt (hK _ _ ?_)
    clear hK K
    refine AW.seq_k (fun K1 hK1 => ?_)
    refine rg fun K hK => ?_
    refine st qP223 <| nt (hK _ _ ?_)
    clear hK K
    refine AW.cond_true rfl rfl ?_
    refine AW.seq_k (fun K2 hK2 => ?_)
    refine rg fun K hK => ?_
    refine st qP223 <| nt (hK _ _ ?_)
    clear hK K
    refine AW.cond_true rfl rfl ?_
    refine rg fun K hK => ?_
    refine st qP223 <| st qP223 <| st qX45 <| st qX22 <| st qX81 <| st qX21 <| st0 (by exact ⟨rfl, rfl, (by exact AStepD.store' (k := 1) (cs := (s).cs y) (ys := [.v (.int .i64 a)]) (zs := ({ s with id := a } : Stt).cs y) tok rfl rfl hg rfl rfl qP37 rfl rfl rfl (by show _ ≤ s.tab.length + 6; omega) rfl)⟩) <| nt (hK _ _ ?_)
    clear hK K
    refine rg fun K hK => ?_
    refine st qP223 <| st qP223 <| st qX45 <| st qX22 <| st qX81 <| st qX213 <| st0 (by exact ⟨rfl, rfl, (by exact AStepD.store' (k := 1) (cs := ({ s with id := a } : Stt).cs y) (ys := [.v (.int .i64 b)]) (zs := ({ s with id := a, master := b } : Stt).cs y) tok rfl rfl qP219 rfl rfl qP37 rfl rfl rfl (by show _ ≤ s.tab.length + 6; omega) rfl)⟩) <| nt (hK _ _ ?_)
    clear hK K
    refine rg fun K hK => ?_
    refine st qP223 <| st qP223 <| st qX45 <| st qX22 <| st qX81 <| st qX214 <| st0 (by exact ⟨rfl, rfl, (by exact AStepD.store' (k := 1) (cs := ({ s with id := a, master := b } : Stt).cs y) (ys := [.v (.int .i64 cc)]) (zs := ({ s with id := a, master := b, cur := cc } : Stt).cs y) tok rfl rfl qP219 rfl rfl qP37 rfl rfl rfl (by show _ ≤ s.tab.length + 6; omega) rfl)⟩) <| nt (hK _ _ ?_)
    clear hK K
    refine rg fun K hK => ?_
    refine st qP223 <| st qP223 <| st qX45 <| st qX22 <| st qX81 <| st (by exact SD.s rfl rfl rfl qX42) <| st0 (by exact ⟨rfl, rfl, (by exact AStepD.store' (k := 1) (cs := ({ s with id := a, master := b, cur := cc } : Stt).cs y) (ys := [.v (.int .i64 d)]) (zs := ({ s with id := a, master := b, cur := cc, vote := d } : Stt).cs y) tok rfl rfl qP219 rfl rfl qP37 rfl rfl rfl (by show _ ≤ s.tab.length + 6; omega) rfl)⟩) <| nt (hK _ _ ?_)
    clear hK K
    refine AW.region ?_
    refine st qP223 <| st qP223 <| st qX45 <| st qX22 <| st qX81 <| st (by exact SD.s rfl rfl rfl qX43) <| st0 (by exact ⟨rfl, rfl, (by exact AStepD.store' (k := 1) (cs := ({ s with id := a, master := b, cur := cc, vote := d } : Stt).cs y) (ys := [.v (.int .i64 e)]) (zs := (hdS s [a, b, cc, d, e]).cs y) tok rfl rfl qP219 rfl rfl qP37 rfl rfl rfl (by show _ ≤ s.tab.length + 6; omega) rfl)⟩) <| AL.nil ?_
    refine hK2 _ _ ?_; try clear hK2 K2
    refine rg fun K hK => ?_
    refine st qP223 <| st qP223 <| st (GW.p (l := [8]) qP318) <| st (GW.p (l := [1]) qP318) <| st (GW.p (l := [55]) (by first | exact GW.yes rfl rfl rfl rfl rfl rfl rfl (by exact strA_len tok rfl rfl rfl rfl) | exact GW.no rfl rfl rfl rfl rfl rfl rfl | exact GW.none rfl rfl rfl rfl rfl | exact GW.may rfl rfl rfl rfl rfl rfl (fun hb => by (repeat (first | apply UW.yes rfl (gpf hb) | apply UW.no)); exact UW.nil (by exact strA_len tok rfl rfl rfl rfl)) | exact GW.may2 rfl rfl rfl rfl rfl rfl (fun _ hb => by (repeat (first | apply UW.yes rfl (gpf hb) | apply UW.no)); exact UW.nil (by exact strA_len tok rfl rfl rfl rfl)))) <| st (GW.p (l := [54, 56]) (by first | exact GW.yes rfl rfl rfl rfl rfl rfl rfl (by exact AStepD.bool (AStepD.eql rfl rfl rfl) (c := decide (en = l.length)) (decide_eq_decide.2 (by omega))) | exact GW.no rfl rfl rfl rfl rfl rfl rfl | exact GW.none rfl rfl rfl rfl rfl | exact GW.may rfl rfl rfl rfl rfl rfl (fun hb => by (repeat (first | apply UW.yes rfl (gpf hb) | apply UW.no)); exact UW.nil (by exact AStepD.bool (AStepD.eql rfl rfl rfl) (c := decide (en = l.length)) (decide_eq_decide.2 (by omega)))) | exact GW.may2 rfl rfl rfl rfl rfl rfl (fun _ hb => by (repeat (first | apply UW.yes rfl (gpf hb) | apply UW.no)); exact UW.nil (by exact AStepD.bool (AStepD.eql rfl rfl rfl) (c := decide (en = l.length)) (decide_eq_decide.2 (by omega)))))) <| st qP312 <| st qP222 <| nt (hK _ _ ?_)
    clear hK K
    refine AW.ret (RetQ.mk (.inr rfl) (retA_tmp rfl qP21 retA_nil) ⟨?_, .put hs (s2 := hdS s [a, b, cc, d, e]) (fun s' e => ?_) rfl ?_ (AHeap.get_set_same _ _ _) fun q _ hq => ?_⟩)
    · rw [hL]; by_cases h : en = l.length
      · rw [if_pos h, decide_eq_true h]; rfl
      · rw [if_neg h, decide_eq_false h]; rfl
    · rw [hL] at e
      split at e
      · cases e; rfl
      · cases e
    · exact Nat.le_refl _
    · rw [AHeap.get_set_ne _ _ hq, AHeap.get_set_ne _ _ hq, AHeap.get_set_ne _ _ hq, AHeap.get_set_ne _ _ hq, AHeap.get_set_ne _ _ hq]
end Go.Proofs.YtbcanlmpfhkklaaGreatDoor

/- The reference's other lines. -/

namespace Go.Proofs.YtbcanlmpfhkklaaGreatDoor
open Go.Ax
open Cel (c)
theorem qX91 {p : Prop} (h : p := by first | exact AStepD.slice_flat_to tok rfl rfl rfl rfl rfl rfl qP21 rfl rfl qP26 qP27 | exact AStepD.slice_flat_from tok rfl rfl rfl rfl rfl rfl qP21 rfl rfl qP26 qP27 | exact AStepD.slice_vec' tok rfl rfl rfl rfl rfl qP21 rfl rfl qP26 qP26 qP27 qP27 rfl rfl | exact AStepD.slice_sl_in tok rfl rfl rfl rfl rfl qP21 qP26 qP26 qP27 qP27 qP27 qP28 qP28 | exact AStepD.slice_sl_end tok rfl rfl rfl rfl rfl qP21 qP26 qP26 qP27 qP27 qP27 | exact AStepD.slice_slx tok rfl rfl rfl rfl rfl qP21 qP26 qP26 qP27 qP27 qP27 qP28 qP28 qP28 | exact AStepD.slice_slc_in tok rfl (SubV.refl _) rfl rfl rfl qP21 qP26 qP26 qP27 qP27 qP27 qP28 qP28 qP28 | exact AStepD.slice_str' tok rfl rfl rfl rfl rfl rfl qP26 qP26 qP27 qP27 | exact AStepD.slice_nil tok rfl rfl rfl rfl rfl rfl rfl | exact AStepD.slice_arr' tok rfl rfl rfl rfl rfl qP21 qP219 rfl rfl qP26 qP26 qX119 (by decide) qP27 qP27 qP27) : p := h
theorem qX92 {p : Prop} (h : p := by first | exact GW.yes rfl rfl rfl rfl rfl rfl rfl qX91 | exact GW.no rfl rfl rfl rfl rfl rfl rfl | exact GW.none rfl rfl rfl rfl rfl | exact GW.may rfl rfl rfl rfl rfl rfl (fun hb => by (repeat (first | apply UW.yes rfl (gpf hb) | apply UW.no)); exact UW.nil qX91) | exact GW.may2 rfl rfl rfl rfl rfl rfl (fun _ hb => by (repeat (first | apply UW.yes rfl (gpf hb) | apply UW.no)); exact UW.nil qX91)) : p := h
set_option linter.unusedSimpArgs false
set_option linter.unusedVariables false
open Cel (c)

theorem lineX_n3 {l : List UInt8} {s : Stt} {p : List Int × Nat} (h : pairsX l true 0 W3 = some p) : lineX false s l = if p.2 = l.length then some (addK s (knS p.1)) else none := by rw [lineX, if_neg (by decide), h]
theorem lineX_n0 {l : List UInt8} {s : Stt} (h3 : pairsX l true 0 W3 = none) (h : pairsX l true 0 W2 = none) : lineX false s l = none := by rw [lineX, if_neg (by decide), h3, h]
theorem lineX_n2 {l : List UInt8} {s : Stt} {p : List Int × Nat} (h3 : pairsX l true 0 W3 = none) (h : pairsX l true 0 W2 = some p) : lineX false s l = if decide (p.2 + 3 ≤ l.length) && decide ((l.drop p.2).take 3 = [32, 58, 32]) && (parseO (l.drop (p.2 + 3))).isSome then some (putT s (parseS (l.drop (p.2 + 3))) (p.1.getD 0 0) (p.1.getD 1 0)) else none := by rw [lineX, if_neg (by decide), h3, h]
def memI (b : BitVec 64) (i : Nat) : List Nat := (List.range i).filter b.getLsbD
theorem memI_next (b : BitVec 64) (i : Nat) : memI b (i + 1) = if b.getLsbD i then memI b i ++ [i] else memI b i := by
  rw [memI, List.range_succ, List.filter_append]
  by_cases h : b.getLsbD i = true
  · rw [if_pos h, List.filter_cons_of_pos h]; rfl
  · rw [if_neg h, List.filter_cons_of_neg h]; exact List.append_nil _
theorem pairsc_any {l : List UInt8} {ws : List (List UInt8)} (hl : l.length ≤ 1000000) (hws : ws.length ≤ 1000) (hw : ∀ w ∈ ws, w.length ≤ 1000) :
    ∃ (x : AV) (e : Int) (b : Bool), ∀ H, ACalls Tryz.prog 64 [strA l, vecA ws] H (fun r H' => r = .tup [x, .v (.int .i64 e), .v (.bool b)] ∧ H' = H) := by
  cases h : pairsX l true 0 ws with
  | none => exact ⟨_, _, _, fun H => pairsc_none H hl hws hw h⟩
  | some p => exact ⟨_, _, _, fun H => pairsc_some H hl hws hw h⟩
set_option maxHeartbeats 8000000 in
theorem lineN_calls (H : AHeap) (S : Nat) (y : AV) (s : Stt) (hs : StX H S y s) (ok : s.Ok) (l : List UInt8) (hl : l.length ≤ 1000000) (hkn : s.known.length ≤ 1000000) :
    ACalls Tryz.prog 44 [.ptr S 0, strA l, .v (.bool false)] H (fun r H' => r = .v (.bool (lineX false s l).isSome) ∧ LnO H S y (lineX false s l) H') := by
  have hg := hs.get
  have hlt := hs.lt
  have hft := ok.ft
  have hy1 : y.one = true := hs.kn.one
  have hfc := ok.fc y
  obtain ⟨x5, e5, b5, h5⟩ := pairsc_any (ws := W5) hl (by decide) W5_len
  refine ACalls.of_body tok Tryz.func44 rfl Tryz.ntmps44 (Nat.le_of_ble_eq_true rfl) (fun base => ?_)
  refine rg fun K hK => ?_
  refine st qP222 <| nt (hK _ _ ?_)
  clear hK K
  refine rg fun K hK => ?_
  refine st qP223 <| st (by exact SD.s rfl rfl rfl (by exact AStepD.vec_flat (l := W5) (AStepD.buildSlice_seq tok rfl rfl rfl rfl (show _ = 1 from rfl) (map_p qP21 (map_p qP21 (map_p qP21 (map_p qP21 (map_p qP21 map_n))))) rfl (by decide) (by decide) rfl qP32 qP213) rfl rfl rfl)) <| st (by exact SD.s rfl rfl rfl (by exact AStepD.callf rfl en64 rfl (h5 _))) <| st qP223 <| st qP220 <| st qP220 <| st qP220 <| st qP222 <| st qP222 <| st qP222 <| nt (hK _ _ ?_)
  clear hK K
  refine AW.seq_k (fun K1 hK1 => ?_)
  refine rg fun K hK => ?_
  refine st qP223 <| nt (hK _ _ ?_)
  clear hK K
  refine AW.cond_false rfl rfl (AW.skip ?_)
  refine hK1 _ _ ?_; try clear hK1 K1
  clear h5
  cases hp3 : pairsX l true 0 W3 with
  | some p =>
    obtain ⟨ns, en⟩ := p
    obtain ⟨hnl, hel⟩ := pairsX_len l W3 true 0 ns en (Nat.zero_le _) hp3
    obtain ⟨a, b, cc, rfl⟩ : ∃ a b cc, ns = [a, b, cc] := by
      match ns, hnl with
      | [a, b, cc], _ => exact ⟨a, b, cc, rfl⟩
    have hL := lineX_n3 (s := s) hp3
    dsimp only at hL
    refine rg fun K hK => ?_
    refine st qP223 <| st (by exact SD.s rfl rfl rfl (by exact AStepD.vec_flat (l := W3) (AStepD.buildSlice_seq tok rfl rfl rfl rfl (show _ = 1 from rfl) (map_p qP21 (map_p qP21 (map_p qP21 map_n))) rfl (by decide) (by decide) rfl qP32 qP213) rfl rfl rfl)) <| st (by exact SD.s rfl rfl rfl (by exact AStepD.callf rfl en64 rfl (pairsc_some _ hl (by decide) W3_len hp3))) <| st qP223 <| st qP220 <| st qP220 <| st qP220 <| st qP222 <| st qP222 <| st qP222 <| nt (hK _ _ ?_)
    clear hK K
    refine AW.seq_k (fun K3 hK3 => ?_)
    refine rg fun K hK => ?_
    refine st qP223 <| nt (hK _ _ ?_)
    clear hK K
    refine AW.cond_true rfl rfl ?_
    have hyk := hs.kn
    have hap := hyk.app (by omega) (m := [knS [a, b, cc]]) (n := (s.known ++ [knS [a, b, cc]]).length) (by simp) (zs := flat (s.known ++ [knS [a, b, cc]])) rfl
    refine AW.seq_k (fun K hK => ?_)
    apply AW.draw mixed [_, _, _, _, _, _, _, _, _, _, _, _, _, _, _, _, _, _, _, _] [16, 19] [_, _, _] [(0, 0), (1, 0), (2, 0), (3, 0), (4, 0), (5, 0), (6, 0), (7, 0), (8, 0), (9, 0), (10, 0), (11, 0), (12, 0), (13, 0), (14, 0), (15, 0), (16, 0), (17, 1), (18, 1), (19, 1), (0, 1)] rfl rfl rfl qP33
    · refine ⟨?_, ?_, ?_, ?_, ?_, ?_, ?_, ?_, ?_, ?_, ?_, ?_, ?_, ?_, ?_, ?_, ?_, ?_, ?_, ?_, ?_⟩
      · refine Ob.mk _ [0] 0 rfl rfl (restr_cons qP21 restr_nil) rfl ?_
        simp only [List.getD_cons_zero, List.getD_cons_succ]
        exact GStep.plain rfl qP215
      · refine Ob.mk _ [0] 0 rfl rfl (restr_cons qP21 restr_nil) rfl ?_
        simp only [List.getD_cons_zero, List.getD_cons_succ]
        exact GStep.plain rfl qP215
      · refine Ob.mk _ [68] 0 rfl rfl (restr_cons qP21 restr_nil) rfl ?_
        simp only [List.getD_cons_zero, List.getD_cons_succ]
        exact GStep.plain rfl qP35
      · refine Ob.mk _ [69] 0 rfl rfl (restr_cons qP21 restr_nil) rfl ?_
        simp only [List.getD_cons_zero, List.getD_cons_succ]
        exact GStep.plain rfl qP322
      · refine Ob.mk _ [70] 0 rfl rfl (restr_cons qP21 restr_nil) rfl ?_
        simp only [List.getD_cons_zero, List.getD_cons_succ]
        exact GStep.plain rfl (by exact AStepD.load_one tok rfl rfl rfl rfl hg rfl rfl)
      · refine Ob.mk _ [7] 0 rfl rfl (restr_cons qP21 restr_nil) rfl ?_
        simp only [List.getD_cons_zero, List.getD_cons_succ]
        exact GStep.plain rfl qP215
      · refine Ob.mk _ [72] 0 rfl rfl (restr_cons qP21 restr_nil) rfl ?_
        simp only [List.getD_cons_zero, List.getD_cons_succ]
        exact GStep.plain rfl qP218
      · refine Ob.mk _ [73] 0 rfl rfl (restr_cons qP21 restr_nil) rfl ?_
        simp only [List.getD_cons_zero, List.getD_cons_succ]
        exact GStep.plain rfl qP34
      · refine Ob.mk _ [7] 0 rfl rfl (restr_cons qP21 restr_nil) rfl ?_
        simp only [List.getD_cons_zero, List.getD_cons_succ]
        exact GStep.plain rfl qP215
      · refine Ob.mk _ [75] 0 rfl rfl (restr_cons qP21 restr_nil) rfl ?_
        simp only [List.getD_cons_zero, List.getD_cons_succ]
        exact GStep.plain rfl qP218
      · refine Ob.mk _ [76] 0 rfl rfl (restr_cons qP21 restr_nil) rfl ?_
        simp only [List.getD_cons_zero, List.getD_cons_succ]
        exact GStep.plain rfl qP34
      · refine Ob.mk _ [7] 0 rfl rfl (restr_cons qP21 restr_nil) rfl ?_
        simp only [List.getD_cons_zero, List.getD_cons_succ]
        exact GStep.plain rfl qP215
      · refine Ob.mk _ [78] 0 rfl rfl (restr_cons qP21 restr_nil) rfl ?_
        simp only [List.getD_cons_zero, List.getD_cons_succ]
        exact GStep.plain rfl qP218
      · refine Ob.mk _ [79] 0 rfl rfl (restr_cons qP21 restr_nil) rfl ?_
        simp only [List.getD_cons_zero, List.getD_cons_succ]
        exact GStep.plain rfl qP34
      · refine Ob.mk _ [74, 77, 80] 0 rfl rfl (restr_cons qP21 (restr_cons qP21 (restr_cons qP21 restr_nil))) rfl ?_
        simp only [List.getD_cons_zero, List.getD_cons_succ]
        exact GStep.plain rfl qP313
      · refine Ob.mk _ [81] 0 rfl rfl (restr_cons qP21 restr_nil) rfl ?_
        simp only [List.getD_cons_zero, List.getD_cons_succ]
        exact GStep.plain rfl (by exact AStepD.vec_flat (l := [knS [a, b, cc]]) (AStepD.buildSlice1 tok rfl rfl rfl rfl (show _ = 3 from rfl) qP21 qP21 rfl (by decide) qP213) rfl rfl rfl)
      · refine Ob.mk _ [71, 82] 1 rfl rfl (restr_cons qP21 (restr_cons qP21 restr_nil)) rfl ?_
        simp only [List.getD_cons_zero, List.getD_cons_succ]
        exact GStep.plain rfl (by exact AStepD.append_lst (bk := 64) (l := s.known) (y := y) (b := S + 1) (m := (s.known ++ [knS [a, b, cc]]).length) tok rfl rfl hyk rfl rfl rfl rfl rfl rfl (show _ = 3 from rfl) rfl rfl Ax.Src.vec rfl Nat.zero_lt_one (flat_ones _) (by simp; omega) (by simp; omega) (by simp) (flat_append s.known [knS [a, b, cc]]).symm)
      · refine Ob.mk _ [67] 1 rfl rfl (restr_cons qP21 restr_nil) rfl ?_
        simp only [List.getD_cons_zero, List.getD_cons_succ]
        exact GStep.plain rfl qP35
      · refine Ob.mk _ [84] 1 rfl rfl (restr_cons qP21 restr_nil) rfl ?_
        simp only [List.getD_cons_zero, List.getD_cons_succ]
        exact GStep.plain rfl qP322
      · refine Ob.mk _ [85, 83] 2 rfl rfl (restr_cons qP21 (restr_cons qP21 restr_nil)) rfl ?_
        simp only [List.getD_cons_zero, List.getD_cons_succ]
        exact GStep.plain rfl (by exact AStepD.store' (k := 1) (cs := s.cs y) (ys := [.sl H.next 0 (s.known ++ [knS [a, b, cc]]).length 3]) (zs := (addK s (knS [a, b, cc])).cs (.sl H.next 0 (s.known ++ [knS [a, b, cc]]).length 3)) tok rfl rfl qP219 rfl rfl qP37 rfl rfl rfl (by omega) rfl)
      · refine Ob.mk _ [0] 1 rfl rfl (restr_cons qP21 restr_nil) rfl ?_
        simp only [List.getD_cons_zero, List.getD_cons_succ]
        exact GStep.plain rfl qP215
    refine hK _ _ ?_; clear hK K
    refine AW.frame qP38 qP39 ?_
    refine rg fun K hK => ?_
    refine st qP223 <| st qP223 <| st (by exact SD.s rfl rfl rfl (by exact strA_len tok rfl rfl rfl rfl)) <| st (by exact SD.s rfl rfl rfl (by exact AStepD.bool (AStepD.eql rfl rfl rfl) (c := decide (en = l.length)) (decide_eq_decide.2 (by omega)))) <| st qP222 <| nt (hK _ _ ?_)
    clear hK K
    refine AW.ret (RetQ.mk (.inr rfl) (retA_tmp rfl qP21 retA_nil) ⟨?_, .sl H.next 0 (s.known ++ [knS [a, b, cc]]).length 3, fun s' e => ?_, ?_⟩)
    · rw [hL]; by_cases h : en = l.length
      · rw [if_pos h, decide_eq_true h]; rfl
      · rw [if_neg h, decide_eq_false h]; rfl
    · rw [hL] at e
      split at e
      · cases e
        refine ⟨?_, AHeap.get_set_same _ _ _, ?_⟩
        · simp only [za, zd, zc]; omega
        · exact hap.keep (fun D hD _ _ => AHeap.get_set_ne _ _ (Nat.ne_of_gt hD)) (Nat.le_refl _)
      · cases e
    · refine ⟨by simp only [za, zd, zc]; omega, fun q hq hqS hql => ?_, fun q hq => ?_⟩
      · rw [AHeap.get_set_ne _ _ hqS, z9 _ hql, AHeap.get_new_ne _ _ (by omega)]
      · simp only [lab, Option.some.injEq] at hq
        exact .inr (by omega)
  | none =>
  refine rg fun K hK => ?_
  refine st qP223 <| st (by exact SD.s rfl rfl rfl (by exact AStepD.vec_flat (l := W3) (AStepD.buildSlice_seq tok rfl rfl rfl rfl (show _ = 1 from rfl) (map_p qP21 (map_p qP21 (map_p qP21 map_n))) rfl (by decide) (by decide) rfl qP32 qP213) rfl rfl rfl)) <| st (by exact SD.s rfl rfl rfl (by exact AStepD.callf rfl en64 rfl (pairsc_none _ hl (by decide) W3_len hp3))) <| st qP223 <| st qP220 <| st qP220 <| st qP220 <| st qP222 <| st qP222 <| st qP222 <| nt (hK _ _ ?_)
  clear hK K
  refine AW.seq_k (fun K3 hK3 => ?_)
  refine rg fun K hK => ?_
  refine st qP223 <| nt (hK _ _ ?_)
  clear hK K
  refine AW.cond_false rfl rfl (AW.skip ?_)
  refine hK3 _ _ ?_; try clear hK3 K3
  cases hp2 : pairsX l true 0 W2 with
  | none =>
    have hL := lineX_n0 (s := s) hp3 hp2
    refine rg fun K hK => ?_
    refine st qP223 <| st (by exact SD.s rfl rfl rfl (by exact AStepD.vec_flat (l := W2) (AStepD.buildSlice_seq tok rfl rfl rfl rfl (show _ = 1 from rfl) (map_p qP21 (map_p qP21 map_n)) rfl (by decide) (by decide) rfl qP32 qP213) rfl rfl rfl)) <| st (by exact SD.s rfl rfl rfl (by exact AStepD.callf rfl en64 rfl (pairsc_none _ hl (by decide) W2_len hp2))) <| st qP223 <| st qP220 <| st qP220 <| st qP220 <| st qP222 <| st qP222 <| st qP222 <| nt (hK _ _ ?_)
    clear hK K
    refine AW.seq_k (fun K4 hK4 => ?_)
    refine rg fun K hK => ?_
    refine st qP223 <| st (by exact SD.s rfl rfl rfl (by first | exact AStepD.not rfl rfl | exact AStepD.neg rfl rfl (by first | exact IntWalk.i64_in _ (by omega) | exact IntWalk.i64_in _ (by simp only [Bool.or_eq_true, Bool.and_eq_true, Bool.or_eq_false_iff, Bool.and_eq_false_iff, Bool.not_eq_true', Bool.not_eq_false', decide_eq_true_eq, decide_eq_false_iff_not, Int.not_lt, Int.not_le, beq_iff_eq] at *; omega) | exact rfl))) <| st qP223 <| st (GW.p (l := [8]) qP318) <| st (GW.p (l := [100]) (by first | exact GW.yes rfl rfl rfl rfl rfl rfl rfl (by first | exact AStepD.add rfl rfl rfl (by first | exact IntWalk.i64_in _ (by omega) | exact IntWalk.i64_in _ (by simp only [Bool.or_eq_true, Bool.and_eq_true, Bool.or_eq_false_iff, Bool.and_eq_false_iff, Bool.not_eq_true', Bool.not_eq_false', decide_eq_true_eq, decide_eq_false_iff_not, Int.not_lt, Int.not_le, beq_iff_eq] at *; omega) | exact rfl) | exact AStepD.str_add rfl rfl rfl (by omega)) | exact GW.no rfl rfl rfl rfl rfl rfl rfl | exact GW.none rfl rfl rfl rfl rfl | exact GW.may rfl rfl rfl rfl rfl rfl (fun hb => by (repeat (first | apply UW.yes rfl (gpf hb) | apply UW.no)); exact UW.nil (by first | exact AStepD.add rfl rfl rfl (by first | exact IntWalk.i64_in _ (by omega) | exact IntWalk.i64_in _ (by simp only [Bool.or_eq_true, Bool.and_eq_true, Bool.or_eq_false_iff, Bool.and_eq_false_iff, Bool.not_eq_true', Bool.not_eq_false', decide_eq_true_eq, decide_eq_false_iff_not, Int.not_lt, Int.not_le, beq_iff_eq] at *; omega) | exact rfl) | exact AStepD.str_add rfl rfl rfl (by omega))) | exact GW.may2 rfl rfl rfl rfl rfl rfl (fun _ hb => by (repeat (first | apply UW.yes rfl (gpf hb) | apply UW.no)); exact UW.nil (by first | exact AStepD.add rfl rfl rfl (by first | exact IntWalk.i64_in _ (by omega) | exact IntWalk.i64_in _ (by simp only [Bool.or_eq_true, Bool.and_eq_true, Bool.or_eq_false_iff, Bool.and_eq_false_iff, Bool.not_eq_true', Bool.not_eq_false', decide_eq_true_eq, decide_eq_false_iff_not, Int.not_lt, Int.not_le, beq_iff_eq] at *; omega) | exact rfl) | exact AStepD.str_add rfl rfl rfl (by omega))))) <| st (GW.p (l := [1]) qP318) <| st (GW.p (l := [102]) (by first | exact GW.yes rfl rfl rfl rfl rfl rfl rfl (by exact strA_len tok rfl rfl rfl rfl) | exact GW.no rfl rfl rfl rfl rfl rfl rfl | exact GW.none rfl rfl rfl rfl rfl | exact GW.may rfl rfl rfl rfl rfl rfl (fun hb => by (repeat (first | apply UW.yes rfl (gpf hb) | apply UW.no)); exact UW.nil (by exact strA_len tok rfl rfl rfl rfl)) | exact GW.may2 rfl rfl rfl rfl rfl rfl (fun _ hb => by (repeat (first | apply UW.yes rfl (gpf hb) | apply UW.no)); exact UW.nil (by exact strA_len tok rfl rfl rfl rfl)))) <| st (GW.p (l := [101, 103]) qX176) <| st qP312 <| st qP223 <| st (GW.p (l := [1]) qP318) <| st (GW.p (l := [8]) qP318) <| st (GW.p (l := [8]) qP318) <| st (GW.p (l := [109]) (by first | exact GW.yes rfl rfl rfl rfl rfl rfl rfl (by first | exact AStepD.add rfl rfl rfl (by first | exact IntWalk.i64_in _ (by omega) | exact IntWalk.i64_in _ (by simp only [Bool.or_eq_true, Bool.and_eq_true, Bool.or_eq_false_iff, Bool.and_eq_false_iff, Bool.not_eq_true', Bool.not_eq_false', decide_eq_true_eq, decide_eq_false_iff_not, Int.not_lt, Int.not_le, beq_iff_eq] at *; omega) | exact rfl) | exact AStepD.str_add rfl rfl rfl (by omega)) | exact GW.no rfl rfl rfl rfl rfl rfl rfl | exact GW.none rfl rfl rfl rfl rfl | exact GW.may rfl rfl rfl rfl rfl rfl (fun hb => by (repeat (first | apply UW.yes rfl (gpf hb) | apply UW.no)); exact UW.nil (by first | exact AStepD.add rfl rfl rfl (by first | exact IntWalk.i64_in _ (by omega) | exact IntWalk.i64_in _ (by simp only [Bool.or_eq_true, Bool.and_eq_true, Bool.or_eq_false_iff, Bool.and_eq_false_iff, Bool.not_eq_true', Bool.not_eq_false', decide_eq_true_eq, decide_eq_false_iff_not, Int.not_lt, Int.not_le, beq_iff_eq] at *; omega) | exact rfl) | exact AStepD.str_add rfl rfl rfl (by omega))) | exact GW.may2 rfl rfl rfl rfl rfl rfl (fun _ hb => by (repeat (first | apply UW.yes rfl (gpf hb) | apply UW.no)); exact UW.nil (by first | exact AStepD.add rfl rfl rfl (by first | exact IntWalk.i64_in _ (by omega) | exact IntWalk.i64_in _ (by simp only [Bool.or_eq_true, Bool.and_eq_true, Bool.or_eq_false_iff, Bool.and_eq_false_iff, Bool.not_eq_true', Bool.not_eq_false', decide_eq_true_eq, decide_eq_false_iff_not, Int.not_lt, Int.not_le, beq_iff_eq] at *; omega) | exact rfl) | exact AStepD.str_add rfl rfl rfl (by omega))))) <| st (GW.p (l := [107, 108, 110]) qX92) <| st (GW.p (l := [111]) qX71) <| st qP312 <| nt (hK _ _ ?_)
    clear hK K
    refine AW.cond_true rfl rfl ?_
    refine rg fun K hK => ?_
    refine st qP222 <| nt (hK _ _ ?_)
    clear hK K
    exact AW.ret (RetQ.mk (.inr rfl) (retA_tmp rfl qP21 retA_nil) ⟨by rw [hL]; rfl, .no hL (.refl ..)⟩)
  | some p =>
  obtain ⟨ns, en⟩ := p
  obtain ⟨hnl, hel⟩ := pairsX_len l W2 true 0 ns en (Nat.zero_le _) hp2
  obtain ⟨w, e, rfl⟩ : ∃ w e, ns = [w, e] := by
    match ns, hnl with
    | [w, e], _ => exact ⟨w, e, rfl⟩
  have hL := lineX_n2 (s := s) hp3 hp2
  dsimp only at hL
  refine rg fun K hK => ?_
  refine st qP223 <| st (by exact SD.s rfl rfl rfl (by exact AStepD.vec_flat (l := W2) (AStepD.buildSlice_seq tok rfl rfl rfl rfl (show _ = 1 from rfl) (map_p qP21 (map_p qP21 map_n)) rfl (by decide) (by decide) rfl qP32 qP213) rfl rfl rfl)) <| st (by exact SD.s rfl rfl rfl (by exact AStepD.callf rfl en64 rfl (pairsc_some _ hl (by decide) W2_len hp2))) <| st qP223 <| st qP220 <| st qP220 <| st qP220 <| st qP222 <| st qP222 <| st qP222 <| nt (hK _ _ ?_)
  clear hK K
  refine AW.seq_k (fun K4 hK4 => ?_)
  refine rg fun K hK => ?_
  refine st qP223 <| st (by exact SD.s rfl rfl rfl (by first | exact AStepD.not rfl rfl | exact AStepD.neg rfl rfl (by first | exact IntWalk.i64_in _ (by omega) | exact IntWalk.i64_in _ (by simp only [Bool.or_eq_true, Bool.and_eq_true, Bool.or_eq_false_iff, Bool.and_eq_false_iff, Bool.not_eq_true', Bool.not_eq_false', decide_eq_true_eq, decide_eq_false_iff_not, Int.not_lt, Int.not_le, beq_iff_eq] at *; omega) | exact rfl))) <| st qP223 <| st (GW.p (l := [8]) qP318) <| st (GW.p (l := [100]) (by first | exact GW.yes rfl rfl rfl rfl rfl rfl rfl (by exact AStepD.add (r := ((en + 3 : Nat) : Int)) rfl rfl rfl (IntWalk.i64_in _ (by omega))) | exact GW.no rfl rfl rfl rfl rfl rfl rfl | exact GW.none rfl rfl rfl rfl rfl | exact GW.may rfl rfl rfl rfl rfl rfl (fun hb => by (repeat (first | apply UW.yes rfl (gpf hb) | apply UW.no)); exact UW.nil (by exact AStepD.add (r := ((en + 3 : Nat) : Int)) rfl rfl rfl (IntWalk.i64_in _ (by omega)))) | exact GW.may2 rfl rfl rfl rfl rfl rfl (fun _ hb => by (repeat (first | apply UW.yes rfl (gpf hb) | apply UW.no)); exact UW.nil (by exact AStepD.add (r := ((en + 3 : Nat) : Int)) rfl rfl rfl (IntWalk.i64_in _ (by omega)))))) <| st (GW.p (l := [1]) qP318) <| st (GW.p (l := [102]) (by first | exact GW.yes rfl rfl rfl rfl rfl rfl rfl (by exact strA_len tok rfl rfl rfl rfl) | exact GW.no rfl rfl rfl rfl rfl rfl rfl | exact GW.none rfl rfl rfl rfl rfl | exact GW.may rfl rfl rfl rfl rfl rfl (fun hb => by (repeat (first | apply UW.yes rfl (gpf hb) | apply UW.no)); exact UW.nil (by exact strA_len tok rfl rfl rfl rfl)) | exact GW.may2 rfl rfl rfl rfl rfl rfl (fun _ hb => by (repeat (first | apply UW.yes rfl (gpf hb) | apply UW.no)); exact UW.nil (by exact strA_len tok rfl rfl rfl rfl)))) <| st (GW.p (l := [101, 103]) (by first | exact GW.yes rfl rfl rfl rfl rfl rfl rfl (by exact AStepD.bool (AStepD.gtr rfl rfl rfl) (c := !decide (en + 3 ≤ l.length)) (by rw [← decide_not]; exact decide_eq_decide.2 (by omega))) | exact GW.no rfl rfl rfl rfl rfl rfl rfl | exact GW.none rfl rfl rfl rfl rfl | exact GW.may rfl rfl rfl rfl rfl rfl (fun hb => by (repeat (first | apply UW.yes rfl (gpf hb) | apply UW.no)); exact UW.nil (by exact AStepD.bool (AStepD.gtr rfl rfl rfl) (c := !decide (en + 3 ≤ l.length)) (by rw [← decide_not]; exact decide_eq_decide.2 (by omega)))) | exact GW.may2 rfl rfl rfl rfl rfl rfl (fun _ hb => by (repeat (first | apply UW.yes rfl (gpf hb) | apply UW.no)); exact UW.nil (by exact AStepD.bool (AStepD.gtr rfl rfl rfl) (c := !decide (en + 3 ≤ l.length)) (by rw [← decide_not]; exact decide_eq_decide.2 (by omega)))))) <| st qP312 <| st qP223 <| st (GW.p (l := [1]) qP318) <| st (GW.p (l := [8]) qP318) <| st (GW.p (l := [8]) qP318) <| st (GW.p (l := [109]) (by first | exact GW.yes rfl rfl rfl rfl rfl rfl rfl (by exact AStepD.add (r := ((en + 3 : Nat) : Int)) rfl rfl rfl (IntWalk.i64_in _ (by omega))) | exact GW.no rfl rfl rfl rfl rfl rfl rfl | exact GW.none rfl rfl rfl rfl rfl | exact GW.may rfl rfl rfl rfl rfl rfl (fun hb => by (repeat (first | apply UW.yes rfl (gpf hb) | apply UW.no)); exact UW.nil (by exact AStepD.add (r := ((en + 3 : Nat) : Int)) rfl rfl rfl (IntWalk.i64_in _ (by omega)))) | exact GW.may2 rfl rfl rfl rfl rfl rfl (fun _ hb => by (repeat (first | apply UW.yes rfl (gpf hb) | apply UW.no)); exact UW.nil (by exact AStepD.add (r := ((en + 3 : Nat) : Int)) rfl rfl rfl (IntWalk.i64_in _ (by omega)))))) <| st (GW.p (l := [107, 108, 110]) (by first | exact GW.yes rfl rfl rfl rfl rfl rfl rfl (by exact AStepD.val (AStepD.slice_str' (l := en) (h := en + 3) tok rfl rfl rfl rfl rfl rfl rfl rfl (by omega) (by rw [str_size]; simp at hb; omega)) (y := strA ((l.drop en).take 3)) (by rw [str_cut, show en + 3 - en = 3 by omega])) | exact GW.no rfl rfl rfl rfl rfl rfl rfl | exact GW.none rfl rfl rfl rfl rfl | exact GW.may rfl rfl rfl rfl rfl rfl (fun hb => by (repeat (first | apply UW.yes rfl (gpf hb) | apply UW.no)); exact UW.nil (by exact AStepD.val (AStepD.slice_str' (l := en) (h := en + 3) tok rfl rfl rfl rfl rfl rfl rfl rfl (by omega) (by rw [str_size]; simp at hb; omega)) (y := strA ((l.drop en).take 3)) (by rw [str_cut, show en + 3 - en = 3 by omega]))) | exact GW.may2 rfl rfl rfl rfl rfl rfl (fun _ hb => by (repeat (first | apply UW.yes rfl (gpf hb) | apply UW.no)); exact UW.nil (by exact AStepD.val (AStepD.slice_str' (l := en) (h := en + 3) tok rfl rfl rfl rfl rfl rfl rfl rfl (by omega) (by rw [str_size]; simp at hb; omega)) (y := strA ((l.drop en).take 3)) (by rw [str_cut, show en + 3 - en = 3 by omega]))))) <| st (GW.p (l := [111]) (by first | exact GW.yes rfl rfl rfl rfl rfl rfl rfl (by exact AStepD.bool (AStepD.str_neq rfl rfl rfl) (c := decide ((l.drop en).take 3 ≠ [32, 58, 32])) (by rw [str_list])) | exact GW.no rfl rfl rfl rfl rfl rfl rfl | exact GW.none rfl rfl rfl rfl rfl | exact GW.may rfl rfl rfl rfl rfl rfl (fun hb => by (repeat (first | apply UW.yes rfl (gpf hb) | apply UW.no)); exact UW.nil (by exact AStepD.bool (AStepD.str_neq rfl rfl rfl) (c := decide ((l.drop en).take 3 ≠ [32, 58, 32])) (by rw [str_list]))) | exact GW.may2 rfl rfl rfl rfl rfl rfl (fun _ hb => by (repeat (first | apply UW.yes rfl (gpf hb) | apply UW.no)); exact UW.nil (by exact AStepD.bool (AStepD.str_neq rfl rfl rfl) (c := decide ((l.drop en).take 3 ≠ [32, 58, 32])) (by rw [str_list]))))) <| st qP312 <| nt (hK _ _ ?_)
  clear hK K
  refine AW.cond _ rfl (fun hc => ?_) (fun hc => ?_)
  · have hbad : (decide (en + 3 ≤ l.length) && decide ((l.drop en).take 3 = [32, 58, 32])) = false := by
      by_cases h1 : en + 3 ≤ l.length
      · by_cases h2 : (l.drop en).take 3 = [32, 58, 32]
        · exfalso; revert hc; simp [h1, h2]
        · rw [decide_eq_false h2, Bool.and_false]
      · rw [decide_eq_false h1, Bool.false_and]
    rw [hbad, Bool.false_and, if_neg (by decide)] at hL
    refine rg fun K hK => ?_
    refine st qP222 <| nt (hK _ _ ?_)
    clear hK K
    exact AW.ret (RetQ.mk (.inr rfl) (retA_tmp rfl qP21 retA_nil) ⟨by rw [hL]; rfl, .no hL (.refl ..)⟩)
  have hgood : en + 3 ≤ l.length ∧ (l.drop en).take 3 = [32, 58, 32] := by
    by_cases h1 : en + 3 ≤ l.length
    · by_cases h2 : (l.drop en).take 3 = [32, 58, 32]
      · exact ⟨h1, h2⟩
      · exfalso; revert hc; simp [h1, h2]
    · exfalso; revert hc; simp [h1]
  clear hc
  rw [decide_eq_true hgood.1, decide_eq_true hgood.2, Bool.true_and, Bool.true_and] at hL
  obtain ⟨hgood, _⟩ := hgood
  obtain ⟨tl, htl⟩ : ∃ tl, tl = l.drop (en + 3) := ⟨_, rfl⟩
  have htll : tl.length ≤ 1000000 := by rw [htl, List.length_drop]; omega
  rw [← htl] at hL
  refine AW.skip ?_
  refine hK4 _ _ ?_; try clear hK4 K4
  obtain ⟨b, hb⟩ : ∃ b, b = parseS tl := ⟨_, rfl⟩
  obtain ⟨is, his⟩ : ∃ is, is = (parseO tl).isSome := ⟨_, rfl⟩
  have hbit : ∀ i, (is && b.getLsbD i) = b.getLsbD i := fun i => by
    rw [his, hb, parseS]
    cases parseO tl with
    | none => simp
    | some x => rfl
  rw [← hb, ← his] at hL
  have hL : lineX false s l = if is then some (putT s b w e) else none := hL
  have hrow : (flat (flF b.getLsbD)).length = 64 := row_len _
  have hrow0 : (flat (flF fun _ => false)).length = 64 := row_len _
  refine rg fun K hK => ?_
  refine st qP223 <| st qP223 <| st (by exact SD.s rfl rfl rfl (by exact AStepD.add (r := ((en + 3 : Nat) : Int)) rfl rfl rfl (IntWalk.i64_in _ (by omega)))) <| st (by exact SD.s rfl rfl rfl (by exact AStepD.val (strA_from (n := en + 3) tok rfl rfl rfl rfl rfl (by omega)) (y := strA tl) (by rw [htl]))) <| st (by exact SD.s rfl rfl rfl (by exact AStepD.val (AStepD.callf rfl en65 rfl (refparse_calls _ tl htll)) (y := .tup [flA b, .v (.bool is)]) (by rw [hb, his]))) <| st qP223 <| st qP220 <| st qP220 <| st qP43 <| st0 (by exact ⟨rfl, rfl, (by exact AStepD.store' (k := 64) (cs := flat (flF fun _ => false)) (ys := flat (flF b.getLsbD)) (zs := flat (flF b.getLsbD)) tok rfl rfl (by rw [← flF_zero]; exact AHeap.get_new_same _ _) rfl rfl (flat_ones _) rfl hrow rfl (by rw [hrow0]; omega) (over_all (by rw [hrow0, hrow]; rfl)))⟩) <| st qP222 <| nt (hK _ _ ?_)
  clear hK K
  refine AW.seq_k (fun K5 hK5 => ?_)
  refine rg fun K hK => ?_
  refine st qP222 <| nt (hK _ _ ?_)
  clear hK K
  refine AW.block ?_
  refine AW.loop_at (ι := Nat) (fun i => [(12, .v (.int .i64 (i : Nat))), (11, .v (.bool is)), (10, .ptr H.next 0), (7, vecA [w, e]), (0, .ptr S 0)])
    (fun i H' => i ≤ 64 ∧ H'.next = H.next + 1 ∧ H'.get H.next = some (.cells 75 (flat (flF b.getLsbD))) ∧ H'.get S = some (.cells 33 (({ s with own := putL s.own (memI b i) w, epo := putL s.epo (memI b i) e } : Stt).cs y)) ∧ ∀ q, q < H.next → q ≠ S → H'.get q = H.get q) (fun i => 64 - i) 0 qP217 ⟨Nat.zero_le _, rfl, AHeap.get_set_same _ _ _, by rw [AHeap.get_set_ne _ _ (by omega), AHeap.get_new_ne _ _ (by omega)]; exact hg, fun q hq _ => by rw [AHeap.get_set_ne _ _ (by omega), AHeap.get_new_ne _ _ (by omega)]⟩ ?_
  rintro i H2 ⟨hi, hn2, gf, g2, hq2⟩
  refine AW.seq_k (fun K6 hK6 => ?_)
  refine rg fun K hK => ?_
  refine st qP223 <| st qX138 <| nt (hK _ _ ?_)
  clear hK K
  refine AW.cond _ rfl (fun hc => ?_) (fun hc => ?_)
  · (try simp only [Bool.or_eq_true, Bool.and_eq_true, Bool.or_eq_false_iff, Bool.and_eq_false_iff, Bool.not_eq_true', Bool.not_eq_false', decide_eq_true_eq, decide_eq_false_iff_not, Int.not_lt, Int.not_le] at hc)
    have hil : i < 64 := by omega
    have hat : (flat (flF b.getLsbD))[i * 1]? = some (.v (.bool (b.getLsbD i))) := by
      have := flat_getc (flF b.getLsbD) i 0 (by rw [flF_len]; exact hil) Nat.zero_lt_one
      rw [flF_get _ _ hil] at this
      exact this
    have hmn := memI_next b i
    obtain ⟨s2, hs2⟩ : ∃ s2 : Stt, s2 = { s with own := putL s.own (memI b i) w, epo := putL s.epo (memI b i) e } := ⟨_, rfl⟩
    have ok2 : s2.Ok := by rw [hs2]; exact ⟨(putL_len _ _ _).trans ok.o, (putL_len _ _ _).trans ok.e⟩
    rw [← hs2] at g2
    have hf2 := ok2.fc y
    refine AW.skip ?_
    refine hK6 _ _ ?_; try clear hK6 K6
    refine AW.seq_k (fun K7 hK7 => ?_)
    refine AW.block ?_
    refine rg fun K hK => ?_
    refine st qP223 <| st qP223 <| st (GW.p (l := [12]) qP318) <| st (GW.p (l := [10, 128]) qX35) <| st (GW.p (l := [129]) (by first | exact GW.yes rfl rfl rfl rfl rfl rfl rfl (by exact AStepD.load_one tok rfl rfl rfl rfl gf rfl hat) | exact GW.no rfl rfl rfl rfl rfl rfl rfl | exact GW.none rfl rfl rfl rfl rfl | exact GW.may rfl rfl rfl rfl rfl rfl (fun hb => by (repeat (first | apply UW.yes rfl (gpf hb) | apply UW.no)); exact UW.nil (by exact AStepD.load_one tok rfl rfl rfl rfl gf rfl hat)) | exact GW.may2 rfl rfl rfl rfl rfl rfl (fun _ hb => by (repeat (first | apply UW.yes rfl (gpf hb) | apply UW.no)); exact UW.nil (by exact AStepD.load_one tok rfl rfl rfl rfl gf rfl hat)))) <| st qP312 <| nt (hK _ _ ?_)
    clear hK K
    rw [hbit]
    have h20 : ∀ (s3 : Stt), ({ s with own := putL s.own (memI b (i + 1)) w, epo := putL s.epo (memI b (i + 1)) e } : Stt) = s3 → ∀ H3 : AHeap, H3.next = H.next + 1 → H3.get H.next = some (.cells 75 (flat (flF b.getLsbD))) → H3.get S = some (.cells 33 (s3.cs y)) → (∀ q, q < H.next → q ≠ S → H3.get q = H.get q) → ∀ T', SubT T' [(12, .v (.int .i64 (i : Nat))), (11, .v (.bool is)), (10, .ptr H.next 0), (7, vecA [w, e]), (0, .ptr S 0)] → K7 T' H3 := fun s3 hs3 H3 a1 a2 a3 a4 T' hT' => by
      rw [← hs3] at a3
      refine hK7 _ _ ?_
      refine AW.sub hT' ?_
      clear hT' hK7 K7
      refine AW.region ?_
      refine st qP223 <| st (by exact SD.s rfl rfl rfl (by exact AStepD.add (r := ((i + 1 : Nat) : Int)) rfl rfl rfl (IntWalk.i64_in _ (by omega)))) <| st qP222 <| AL.nil ?_
      exact ⟨i + 1, by omega, qP217, hil, a1, a2, a3, a4⟩
    cases hbt : b.getLsbD i with
    | false =>
      rw [hbt, if_neg (by decide)] at hmn
      refine AW.cond_false rfl rfl (AW.skip ?_)
      exact h20 s2 (by rw [hmn, hs2]) H2 hn2 gf g2 hq2 _ qP217
    | true =>
      rw [hbt, if_pos rfl] at hmn
      have ok3 : ({ s2 with own := s2.own.set i w } : Stt).Ok := ⟨(List.length_set ..).trans ok2.o, ok2.e⟩
      have hf3 := ok3.fc y
      have hnx : ({ s with own := putL s.own (memI b (i + 1)) w, epo := putL s.epo (memI b (i + 1)) e } : Stt) = { s2 with own := s2.own.set i w, epo := s2.epo.set i e } := by
        rw [hs2, hmn, putL_snoc, putL_snoc]
      have hSn : H.next ≠ S := by omega
      refine AW.cond_true rfl rfl ?_
      refine AW.seq_k (fun K hK => ?_)
      apply AW.draw mixed [_, _, _, _, _, _, _, _, _] [8] [_, _] [(0, 0), (1, 0), (2, 0), (3, 0), (4, 0), (5, 0), (6, 0), (7, 0), (8, 0)] rfl rfl rfl qP33
      · refine ⟨?_, ?_, ?_, ?_, ?_, ?_, ?_, ?_, ?_⟩
        · refine Ob.mk _ [0] 0 rfl rfl (restr_cons qP21 restr_nil) rfl ?_
          simp only [List.getD_cons_zero, List.getD_cons_succ]
          exact GStep.plain rfl qP215
        · refine Ob.mk _ [12] 0 rfl rfl (restr_cons qP21 restr_nil) rfl ?_
          simp only [List.getD_cons_zero, List.getD_cons_succ]
          exact GStep.plain rfl qP215
        · refine Ob.mk _ [7] 0 rfl rfl (restr_cons qP21 restr_nil) rfl ?_
          simp only [List.getD_cons_zero, List.getD_cons_succ]
          exact GStep.plain rfl qP215
        · refine Ob.mk _ [134] 0 rfl rfl (restr_cons qP21 restr_nil) rfl ?_
          simp only [List.getD_cons_zero, List.getD_cons_succ]
          exact GStep.plain rfl qP218
        · refine Ob.mk _ [135] 0 rfl rfl (restr_cons qP21 restr_nil) rfl ?_
          simp only [List.getD_cons_zero, List.getD_cons_succ]
          exact GStep.plain rfl qP34
        · refine Ob.mk _ [132] 0 rfl rfl (restr_cons qP21 restr_nil) rfl ?_
          simp only [List.getD_cons_zero, List.getD_cons_succ]
          exact GStep.plain rfl qP35
        · refine Ob.mk _ [137] 0 rfl rfl (restr_cons qP21 restr_nil) rfl ?_
          simp only [List.getD_cons_zero, List.getD_cons_succ]
          exact GStep.plain rfl qP323
        · refine Ob.mk _ [138, 133] 0 rfl rfl (restr_cons qP21 (restr_cons qP21 restr_nil)) rfl ?_
          simp only [List.getD_cons_zero, List.getD_cons_succ]
          exact GStep.plain rfl (by exact AStepD.indexAddr_arr' (i := i) (off' := 6 + i * 1) tok rfl rfl rfl rfl rfl rfl rfl rfl hil rfl)
        · refine Ob.mk _ [139, 136] 1 rfl rfl (restr_cons qP21 (restr_cons qP21 restr_nil)) rfl ?_
          simp only [List.getD_cons_zero, List.getD_cons_succ]
          exact GStep.plain rfl (by exact AStepD.store' (k := 1) (cs := s2.cs y) (ys := [.v (.int .i64 w)]) (zs := ({ s2 with own := s2.own.set i w } : Stt).cs y) tok rfl rfl g2 rfl rfl qP37 rfl rfl rfl (by omega) (over_own ok2 hil w))
      refine hK _ _ ?_; clear hK K
      refine AW.frame qP38 qP39 ?_
      apply AW.draw mixed [_, _, _, _, _, _, _, _, _] [8] [_, _] [(0, 0), (1, 0), (2, 0), (3, 0), (4, 0), (5, 0), (6, 0), (7, 0), (8, 0)] rfl rfl rfl qP33
      · refine ⟨?_, ?_, ?_, ?_, ?_, ?_, ?_, ?_, ?_⟩
        · refine Ob.mk _ [0] 0 rfl rfl (restr_cons qP21 restr_nil) rfl ?_
          simp only [List.getD_cons_zero, List.getD_cons_succ]
          exact GStep.plain rfl qP215
        · refine Ob.mk _ [12] 0 rfl rfl (restr_cons qP21 restr_nil) rfl ?_
          simp only [List.getD_cons_zero, List.getD_cons_succ]
          exact GStep.plain rfl qP215
        · refine Ob.mk _ [7] 0 rfl rfl (restr_cons qP21 restr_nil) rfl ?_
          simp only [List.getD_cons_zero, List.getD_cons_succ]
          exact GStep.plain rfl qP215
        · refine Ob.mk _ [142] 0 rfl rfl (restr_cons qP21 restr_nil) rfl ?_
          simp only [List.getD_cons_zero, List.getD_cons_succ]
          exact GStep.plain rfl qP218
        · refine Ob.mk _ [143] 0 rfl rfl (restr_cons qP21 restr_nil) rfl ?_
          simp only [List.getD_cons_zero, List.getD_cons_succ]
          exact GStep.plain rfl qP34
        · refine Ob.mk _ [140] 0 rfl rfl (restr_cons qP21 restr_nil) rfl ?_
          simp only [List.getD_cons_zero, List.getD_cons_succ]
          exact GStep.plain rfl qP35
        · refine Ob.mk _ [145] 0 rfl rfl (restr_cons qP21 restr_nil) rfl ?_
          simp only [List.getD_cons_zero, List.getD_cons_succ]
          exact GStep.plain rfl qX46
        · refine Ob.mk _ [146, 141] 0 rfl rfl (restr_cons qP21 (restr_cons qP21 restr_nil)) rfl ?_
          simp only [List.getD_cons_zero, List.getD_cons_succ]
          exact GStep.plain rfl (by exact AStepD.indexAddr_arr' (i := i) (off' := 70 + i * 1) tok rfl rfl rfl rfl rfl rfl rfl rfl hil rfl)
        · refine Ob.mk _ [147, 144] 1 rfl rfl (restr_cons qP21 (restr_cons qP21 restr_nil)) rfl ?_
          simp only [List.getD_cons_zero, List.getD_cons_succ]
          exact GStep.plain rfl (by exact AStepD.store' (k := 1) (cs := ({ s2 with own := s2.own.set i w } : Stt).cs y) (ys := [.v (.int .i64 e)]) (zs := ({ s2 with own := s2.own.set i w, epo := s2.epo.set i e } : Stt).cs y) tok rfl rfl qP219 rfl rfl qP37 rfl rfl rfl (by omega) (over_epo ok3 hil e))
      refine h20 _ hnx _ ?_ ?_ ?_ ?_ _ qP217
      · exact hn2
      · show ((H2.set S (.cells 33 (({ s2 with own := s2.own.set i w } : Stt).cs y))).set S (.cells 33 (({ s2 with own := s2.own.set i w, epo := s2.epo.set i e } : Stt).cs y))).get H.next = _
        rw [AHeap.get_set_ne _ _ hSn, AHeap.get_set_ne _ _ hSn]; exact gf
      · exact AHeap.get_set_same _ _ _
      · intro q hq1 hq
        show ((H2.set S (.cells 33 (({ s2 with own := s2.own.set i w } : Stt).cs y))).set S (.cells 33 (({ s2 with own := s2.own.set i w, epo := s2.epo.set i e } : Stt).cs y))).get q = _
        rw [AHeap.get_set_ne _ _ hq, AHeap.get_set_ne _ _ hq]; exact hq2 q hq1 hq
  · (try simp only [Bool.or_eq_true, Bool.and_eq_true, Bool.or_eq_false_iff, Bool.and_eq_false_iff, Bool.not_eq_true', Bool.not_eq_false', decide_eq_true_eq, decide_eq_false_iff_not, Int.not_lt, Int.not_le] at hc)
    obtain rfl : i = 64 := by omega
    refine AW.exit ?_
    refine hK5 _ _ ?_; try clear hK5 K5 hK6 K6
    refine rg fun K hK => ?_
    refine st qP223 <| st qP222 <| nt (hK _ _ ?_)
    clear hK K
    have hlb : H.next ≤ H2.next := by omega
    refine AW.ret (RetQ.mk (.inr rfl) (retA_tmp rfl qP21 retA_nil) ⟨?_, .put hs (s2 := putT s b w e) (fun s' e => ?_) rfl hlb g2 hq2⟩)
    · rw [hL]; cases is <;> rfl
    · rw [hL] at e
      split at e
      · cases e; rfl
      · cases e
end Go.Proofs.YtbcanlmpfhkklaaGreatDoor

/- The reference's Parse. -/

namespace Go.Proofs.YtbcanlmpfhkklaaGreatDoor
open Go.Ax
open Cel (c)
theorem qX101 {p : Prop} (h : p := by first | exact AStepD.load_cel_ip tok rfl rfl rfl rfl (show _ = 134 from rfl) rfl | exact AStepD.load_agg tok rfl rfl rfl qP219 rfl (show _ = 134 from rfl) qX119 qX120 | exact AStepD.load_agg_ip tok rfl rfl rfl rfl (show _ = 134 from rfl) qX119 qX120) : p := h
theorem qX102 {p : Prop} (h : p := by exact (fun hb => by (repeat (first | apply UW.yes rfl (gpf hb) | apply UW.no)); exact UW.nil (by fail))) : p := h
theorem qX103 {p : Prop} (h : p := by exact (fun _ hb => by (repeat (first | apply UW.yes rfl (gpf hb) | apply UW.no)); exact UW.nil (by fail))) : p := h
theorem qX104 {p : Prop} (h : p := by exact (fun hb => by (repeat (first | apply UW.yes rfl (gpf hb) | apply UW.no)); exact UW.nil qP23)) : p := h
theorem qX105 {p : Prop} (h : p := by exact (fun _ hb => by (repeat (first | apply UW.yes rfl (gpf hb) | apply UW.no)); exact UW.nil qP23)) : p := h
theorem qX106 {p : Prop} (h : p := by exact (fun hb => by (repeat (first | apply UW.yes rfl (gpf hb) | apply UW.no)); exact UW.nil qX101)) : p := h
theorem qX107 {p : Prop} (h : p := by exact (fun _ hb => by (repeat (first | apply UW.yes rfl (gpf hb) | apply UW.no)); exact UW.nil qX101)) : p := h
theorem qX108 {p : Prop} (h : p := by first | exact GW.yes rfl rfl rfl rfl rfl rfl rfl (by fail) | exact GW.no rfl rfl rfl rfl rfl rfl rfl | exact GW.none rfl rfl rfl rfl rfl | exact GW.may rfl rfl rfl rfl rfl rfl qX102 | exact GW.may2 rfl rfl rfl rfl rfl rfl qX103) : p := h
theorem qX109 {p : Prop} (h : p := by first | exact GW.yes rfl rfl rfl rfl rfl rfl rfl qP23 | exact GW.no rfl rfl rfl rfl rfl rfl rfl | exact GW.none rfl rfl rfl rfl rfl | exact GW.may rfl rfl rfl rfl rfl rfl qX104 | exact GW.may2 rfl rfl rfl rfl rfl rfl qX105) : p := h
theorem qX1010 {p : Prop} (h : p := by first | exact GW.yes rfl rfl rfl rfl rfl rfl rfl qX101 | exact GW.no rfl rfl rfl rfl rfl rfl rfl | exact GW.none rfl rfl rfl rfl rfl | exact GW.may rfl rfl rfl rfl rfl rfl qX106 | exact GW.may2 rfl rfl rfl rfl rfl rfl qX107) : p := h
set_option linter.unusedSimpArgs false
set_option linter.unusedVariables false
open Cel (c)

theorem linex_calls (H : AHeap) (S : Nat) (y : AV) (s : Stt) (hs : StX H S y s) (ok : s.Ok) (f : Bool) (l : List UInt8) (hl : l.length ≤ 1000000) (hkn : s.known.length ≤ 1000000) :
    ACalls Tryz.prog 44 [.ptr S 0, strA l, .v (.bool f)] H (fun r H' => r = .v (.bool (lineX f s l).isSome) ∧ LnO H S y (lineX f s l) H') := by
  cases f with
  | true => exact lineH_calls H S y s hs ok l hl
  | false => exact lineN_calls H S y s hs ok l hl hkn
theorem lineX_kn {f : Bool} {s s' : Stt} {l : List UInt8} (h : lineX f s l = some s') : s'.known.length ≤ s.known.length + 1 := by
  rw [lineX] at h
  split at h
  · split at h
    · split at h
      · cases h; exact Nat.le_succ _
      · cases h
    · cases h
  · split at h
    · split at h
      · cases h; rw [addK]; simp
      · cases h
    · split at h
      · split at h
        · cases h; exact Nat.le_succ _
        · cases h
      · cases h
def fromX (t : List UInt8) (last i : Nat) (s : Stt) : Option Stt := readX (decide (last = 0)) s (lnX ((t.drop last).take (i - last)) (t.drop i))
theorem from_lf {t : List UInt8} {last i : Nat} (s : Stt) (hl : last ≤ i) (hi : i < t.length) (h : at8 t i = 10) : fromX t last i s = (lineX (decide (last = 0)) s ((t.drop last).take (i - last))).bind fun s' => fromX t (i + 1) (i + 1) s' := by
  have h10 : t[i] = 10 := by
    rw [at8, List.getD_eq_getElem?_getD, List.getElem?_eq_getElem hi, Option.getD_some] at h
    exact UInt8.toNat_inj.1 (h.trans (by decide))
  rw [fromX, List.drop_eq_getElem_cons hi, h10, lnX, if_pos rfl, readX]
  congr 1
  funext s'
  rw [fromX, Nat.sub_self, List.take_zero, decide_eq_false (by omega)]
theorem from_else {t : List UInt8} {last i : Nat} (s : Stt) (hl : last ≤ i) (hi : i < t.length) (h : at8 t i ≠ 10) : fromX t last i s = fromX t last (i + 1) s := by
  have h10 : ¬ t[i] = 10 := fun e => h (by rw [at8, List.getD_eq_getElem?_getD, List.getElem?_eq_getElem hi, Option.getD_some, e]; rfl)
  rw [fromX, fromX, List.drop_eq_getElem_cons hi, lnX, if_neg h10, show i + 1 - last = (i - last) + 1 by omega, take_next (t.drop last) (i - last) qX61]
  congr 3
  rw [List.getElem_drop]
  simp only [show last + (i - last) = i by omega]
set_option maxHeartbeats 8000000 in
theorem parsex_calls (H : AHeap) (t : List UInt8) (ht : t.length ≤ 900000) : ACalls Tryz.prog 17 [strA t] H (fun r H' => r = .tup [stA ((parseP t).getD zS), .v (.bool (parseP t).isSome)] ∧ H' = H) := by
  refine ACalls.quiet_keep ?_ (.tup (by simp only [List.forall_mem_cons]; exact ⟨stA_plain _, .v _, fun _ h => absurd h List.not_mem_nil⟩))
  have hP : parseP t = (fromX t 0 0 zS).bind fun s => if rightB s = true ∧ docT s = t then some s else none := (parseX_eq t).symm
  refine ACalls.of_body tok Tryz.func17 rfl Tryz.ntmps17 (Nat.le_of_ble_eq_true rfl) (fun base => ?_)
  refine rg fun K hK => ?_
  refine st qP43 <| st qP222 <| nt (hK _ _ ?_)
  clear hK K
  refine rg fun K hK => ?_
  refine st qP43 <| nt (hK _ _ ?_)
  clear hK K
  refine rg fun K hK => ?_
  refine st qP222 <| nt (hK _ _ ?_)
  clear hK K
  rw [zS33]
  refine AW.seq_k (fun K1 hK1 => ?_)
  refine rg fun K hK => ?_
  refine st qP222 <| nt (hK _ _ ?_)
  clear hK K
  refine AW.block ?_
  refine AW.loop_at (ι := Nat × Nat × AV) (fun x => [(6, .v (.int .i64 (x.1 : Nat))), (5, .v (.int .i64 (x.2.1 : Nat))), (4, .ptr (H.next + 1) 0), (2, .ptr H.next 0), (0, strA t)])
    (fun x H' => x.1 ≤ t.length ∧ x.2.1 ≤ x.1 ∧ (∃ s, StX H' (H.next + 1) x.2.2 s ∧ s.Ok ∧ fromX t 0 0 zS = fromX t x.2.1 x.1 s ∧ s.known.length ≤ x.1 ∧ (x.2.1 = 0 → s = zS)) ∧ H'.get H.next = some (.cells 33 (zS.cs (.v (.slice none 0 0)))) ∧ Keep H H') (fun x => t.length - x.1) (0, 0, .v (.slice none 0 0)) qP217
    ⟨Nat.zero_le _, Nat.le_refl _, ⟨zS, ⟨qX118, qP219, .nil⟩, zS_ok, rfl, Nat.le_refl _, fun _ => rfl⟩, qP219, qP24⟩ ?_
  rintro ⟨i, last, y⟩ H2 ⟨hi, hla, ⟨s, hst, ok, hrd, hkn, hz0⟩, g0, hkp⟩
  dsimp only at hi hla hst hrd hkn hz0 ⊢
  have hn1 := hst.lt
  refine AW.seq_k (fun K2 hK2 => ?_)
  refine rg fun K hK => ?_
  refine st qP223 <| st qP223 <| st (by exact SD.s rfl rfl rfl (by exact strA_len tok rfl rfl rfl rfl)) <| st qX138 <| nt (hK _ _ ?_)
  clear hK K
  refine AW.cond _ rfl (fun hc => ?_) (fun hc => ?_)
  · (try simp only [Bool.or_eq_true, Bool.and_eq_true, Bool.or_eq_false_iff, Bool.and_eq_false_iff, Bool.not_eq_true', Bool.not_eq_false', decide_eq_true_eq, decide_eq_false_iff_not, Int.not_lt, Int.not_le] at hc)
    have hil : i < t.length := by omega
    refine AW.skip ?_
    refine hK2 _ _ ?_; try clear hK2 K2
    refine AW.seq_k (fun K3 hK3 => ?_)
    refine AW.block ?_
    by_cases h10 : at8 t i = 10
    · rw [from_lf s hla hil h10] at hrd
      refine rg fun K hK => ?_
      refine st qP223 <| st qP223 <| st (by exact SD.s rfl rfl rfl (by exact strA_index tok rfl rfl rfl rfl rfl rfl hil)) <| st (by exact SD.s rfl rfl rfl (by exact AStepD.bool (AStepD.eql rfl rfl rfl) (c := true) (decide_eq_true (by rw [h10]; rfl)))) <| nt (hK _ _ ?_)
      clear hK K
      refine AW.cond_true rfl rfl ?_
      refine AW.seq_k (fun K4 hK4 => ?_)
      obtain ⟨l, hl⟩ : ∃ l, l = (t.drop last).take (i - last) := ⟨_, rfl⟩
      have hll : l.length ≤ 1000000 := by rw [hl, List.length_take, List.length_drop]; omega
      rw [← hl] at hrd
      have hdk : decide ((last : Int) = 0) = decide (last = 0) := decide_eq_decide.2 (by omega)
      have hrc := linex_calls H2 (H.next + 1) y s hst ok (decide (last = 0)) l hll (by omega)
      refine AW.seq_region (fun K hK => ?_)
      refine AL.step rfl rfl rfl qP215 ?_
      refine AL.step rfl rfl rfl qP215 ?_
      refine AL.step rfl rfl rfl qP215 ?_
      refine AL.step rfl rfl rfl (by exact AStepD.val (AStepD.slice_str' (l := last) (h := i) tok rfl rfl rfl rfl rfl rfl rfl rfl hla (by rw [str_size]; omega)) (y := strA l) (by rw [hl, str_cut])) ?_
      refine AL.step rfl rfl rfl qP215 ?_
      refine AL.step rfl rfl rfl (by exact AStepD.bool (AStepD.eql rfl rfl rfl) (c := decide (last = 0)) hdk) ?_
      refine AL.call rfl rfl rfl (AStep.callf rfl en44 hrc) ?_
      rintro _ H3 ⟨rfl, y3, hst3, hs3⟩
      refine AL.step rfl rfl rfl (by first | exact AStepD.not rfl rfl | exact AStepD.neg rfl rfl (by first | exact IntWalk.i64_in _ (by omega) | exact IntWalk.i64_in _ (by simp only [Bool.or_eq_true, Bool.and_eq_true, Bool.or_eq_false_iff, Bool.and_eq_false_iff, Bool.not_eq_true', Bool.not_eq_false', decide_eq_true_eq, decide_eq_false_iff_not, Int.not_lt, Int.not_le, beq_iff_eq] at *; omega) | exact rfl)) ?_
      refine AL.nil_then (hK _ _ ?_); clear hK K
      have hlb := hst.kn
      have g3 : H3.get H.next = some (.cells 33 (zS.cs (.v (.slice none 0 0)))) := (hs3.keep _ (by omega) (by omega) (hlb.lab_ne (by omega))).trans g0
      have hkp3 : Keep H H3 := ⟨Nat.le_trans hkp.1 hs3.nx, fun q hq => (hs3.keep q (by have := hkp.1; omega) (by omega) (hlb.lab_ne (by omega))).trans (hkp.2 q hq)⟩
      cases hsp : lineX (decide (last = 0)) s l with
      | none =>
        rw [hsp] at hrd
        have hno : parseP t = none := by rw [hP, hrd]; rfl
        refine AW.cond_true rfl rfl ?_
        refine rg fun K hK => ?_
        refine st (by exact SD.s rfl rfl rfl (by exact AStepD.val (AStepD.build tok rfl rfl rfl (by decide) rfl (fun _ h => absurd h List.not_mem_nil)) (y := .agg (zS.cs (.v (.slice none 0 0)))) (by rw [zS33]))) <| st0 (by exact ⟨rfl, rfl, (by exact AStepD.store' (k := 134) (cs := zS.cs (.v (.slice none 0 0))) (ys := zS.cs (.v (.slice none 0 0))) (zs := zS.cs (.v (.slice none 0 0))) tok rfl rfl g3 rfl rfl (zS.cs_one rfl) rfl (zS_ok.fc _) rfl (by rw [zS_ok.fc]; omega) (over_all (by rw [zS_ok.fc]; rfl)))⟩) <| st qP222 <| nt (hK _ _ ?_)
        clear hK K
        refine AW.ret (RetQ.sub (.inr rfl) (retA_agg (cs := zS.cs (.v (.slice none 0 0))) (zs := zS.cs (.v (.slice none 0 0))) rfl rfl rfl (AHeap.get_set_same _ _ _) rfl (show _ = 134 from rfl) (by rw [zS_ok.fc]; omega) (by rw [List.drop_zero]; exact List.take_of_length_le (by rw [zS_ok.fc]; omega)) (retA_tmp rfl qP21 retA_nil)) (SubV.tup2 (cs_sub zS (SubV.nil_vecA (α := Kn))) (.refl _)) ⟨?_, ?_⟩)
        · rw [hno]; rfl
        · exact hkp3.set (Nat.le_refl _)
      | some s3 =>
        rw [hsp] at hrd
        have ok3 := lineX_ok ok hsp
        have hk3 := lineX_kn hsp
        refine AW.cond_false rfl rfl (AW.skip ?_)
        refine hK4 _ _ ?_; try clear hK4 K4
        refine AW.region ?_
        refine st qP223 <| st (by exact SD.s rfl rfl rfl (by exact AStepD.add (r := ((i + 1 : Nat) : Int)) rfl rfl rfl (IntWalk.i64_in _ (by omega)))) <| st qP222 <| AL.nil ?_
        refine hK3 _ _ ?_; try clear hK3 K3
        refine AW.region ?_
        refine st qP223 <| st (by exact SD.s rfl rfl rfl (by exact AStepD.add (r := ((i + 1 : Nat) : Int)) rfl rfl rfl (IntWalk.i64_in _ (by omega)))) <| st qP222 <| AL.nil ?_
        exact ⟨(i + 1, i + 1, y3), by show t.length - (i + 1) < t.length - i; omega, qP217, hil, Nat.le_refl _, ⟨s3, hst3 s3 hsp, ok3, hrd, by show s3.known.length ≤ i + 1; omega, fun h => absurd h (Nat.succ_ne_zero i)⟩, g3, hkp3⟩
    · rw [from_else s hla hil h10] at hrd
      refine rg fun K hK => ?_
      refine st qP223 <| st qP223 <| st (by exact SD.s rfl rfl rfl (by exact strA_index tok rfl rfl rfl rfl rfl rfl hil)) <| st (by exact SD.s rfl rfl rfl (by exact AStepD.bool (AStepD.eql rfl rfl rfl) (c := false) (decide_eq_false (by omega)))) <| nt (hK _ _ ?_)
      clear hK K
      refine AW.cond_false rfl rfl (AW.skip ?_)
      refine hK3 _ _ ?_; try clear hK3 K3
      refine AW.region ?_
      refine st qP223 <| st (by exact SD.s rfl rfl rfl (by exact AStepD.add (r := ((i + 1 : Nat) : Int)) rfl rfl rfl (IntWalk.i64_in _ (by omega)))) <| st qP222 <| AL.nil ?_
      exact ⟨(i + 1, last, y), by show t.length - (i + 1) < t.length - i; omega, qP217, hil, by show last ≤ i + 1; omega, ⟨s, hst, ok, hrd, by show s.known.length ≤ i + 1; omega, hz0⟩, g0, hkp⟩
  (try simp only [Bool.or_eq_true, Bool.and_eq_true, Bool.or_eq_false_iff, Bool.and_eq_false_iff, Bool.not_eq_true', Bool.not_eq_false', decide_eq_true_eq, decide_eq_false_iff_not, Int.not_lt, Int.not_le] at hc)
  obtain rfl : i = t.length := by omega
  have hrs : fromX t 0 0 zS = some s := by rw [hrd, fromX, List.drop_length]; rfl
  rw [hrs] at hP
  have hP : parseP t = if rightB s = true ∧ docT s = t then some s else none := hP
  have hcl := ok.fc (vecA s.known)
  refine AW.exit ?_
  refine hK1 _ _ ?_; try clear hK1 K1 hK2 K2
  refine AW.vec_cell (X := H.next + 1) (b := H.next + 1 + 1) (pre := [.v (.int .i64 s.id), .v (.int .i64 s.master), .v (.int .i64 s.cur), .v (.int .i64 s.vote), .v (.int .i64 s.cfg)]) (post := s.tab) hst.get hst.kn (by omega) ?_
  have hlb := hst.kn
  have g3 : ((H2.delv y).set (H.next + 1) (.cells 33 (s.cs (vecA s.known)))).get H.next = some (.cells 33 (zS.cs (.v (.slice none 0 0)))) := by
    rw [AHeap.get_set_ne _ _ (by omega), AHeap.delv_get _ (hlb.lab_ne (by omega))]; exact g0
  have g4 : ((H2.delv y).set (H.next + 1) (.cells 33 (s.cs (vecA s.known)))).get (H.next + 1) = some (.cells 33 (s.cs (vecA s.known))) := AHeap.get_set_same _ _ _
  have hkp3 : Keep H ((H2.delv y).set (H.next + 1) (.cells 33 (s.cs (vecA s.known)))) := ⟨by rw [za, zd]; exact hkp.1, fun q hq => by rw [AHeap.get_set_ne _ _ (by omega), AHeap.delv_get _ (hlb.lab_ne (by omega))]; exact hkp.2 q hq⟩
  show AW _ _ _ _ _ ((H2.delv y).set (H.next + 1) (.cells 33 (s.cs (vecA s.known)))) _
  generalize (H2.delv y).set (H.next + 1) (.cells 33 (s.cs (vecA s.known))) = H3 at g3 g4 hkp3
  clear hlb hkp g0 hst hkn hc hrd hrs
  have hzr : rightB zS = false := by kernel_rfl
  refine AW.seq_k (fun K5 hK5 => ?_)
  by_cases hr : rightB s = true
  · have hl0 : last ≠ 0 := fun h => by rw [hz0 h, hzr] at hr; cases hr
    have r := right_rt hr
    refine rg fun K hK => ?_
    refine st qP223 <| st (by exact SD.s rfl rfl rfl (by exact AStepD.bool (AStepD.eql rfl rfl rfl) (c := false) (decide_eq_false (by omega)))) <| st qP223 <| st (GW.p (l := [4]) (by first | exact GW.yes rfl rfl rfl rfl rfl rfl rfl (by exact AStepD.load_agg (cs := s.cs (vecA s.known)) (zs := s.cs (vecA s.known)) tok rfl rfl rfl g4 rfl (show _ = 134 from rfl) (by omega) qP42) | exact GW.no rfl rfl rfl rfl rfl rfl rfl | exact GW.none rfl rfl rfl rfl rfl | exact GW.may rfl rfl rfl rfl rfl rfl (fun hb => by (repeat (first | apply UW.yes rfl (gpf hb) | apply UW.no)); exact UW.nil (by exact AStepD.load_agg (cs := s.cs (vecA s.known)) (zs := s.cs (vecA s.known)) tok rfl rfl rfl g4 rfl (show _ = 134 from rfl) (by omega) qP42)) | exact GW.may2 rfl rfl rfl rfl rfl rfl (fun _ hb => by (repeat (first | apply UW.yes rfl (gpf hb) | apply UW.no)); exact UW.nil (by exact AStepD.load_agg (cs := s.cs (vecA s.known)) (zs := s.cs (vecA s.known)) tok rfl rfl rfl g4 rfl (show _ = 134 from rfl) (by omega) qP42)))) <| st (GW.p (l := [31]) (by first | exact GW.yes rfl rfl rfl rfl rfl rfl rfl (by exact AStepD.val (AStepD.callf rfl en13 rfl (rightx_calls _ s ok)) (y := .v (.bool true)) (by rw [hr])) | exact GW.no rfl rfl rfl rfl rfl rfl rfl | exact GW.none rfl rfl rfl rfl rfl | exact GW.may rfl rfl rfl rfl rfl rfl (fun hb => by (repeat (first | apply UW.yes rfl (gpf hb) | apply UW.no)); exact UW.nil (by exact AStepD.val (AStepD.callf rfl en13 rfl (rightx_calls _ s ok)) (y := .v (.bool true)) (by rw [hr]))) | exact GW.may2 rfl rfl rfl rfl rfl rfl (fun _ hb => by (repeat (first | apply UW.yes rfl (gpf hb) | apply UW.no)); exact UW.nil (by exact AStepD.val (AStepD.callf rfl en13 rfl (rightx_calls _ s ok)) (y := .v (.bool true)) (by rw [hr]))))) <| st (GW.p (l := [32]) (by first | exact GW.yes rfl rfl rfl rfl rfl rfl rfl (by first | exact AStepD.not rfl rfl | exact AStepD.neg rfl rfl (by first | exact IntWalk.i64_in _ (by omega) | exact IntWalk.i64_in _ (by simp only [Bool.or_eq_true, Bool.and_eq_true, Bool.or_eq_false_iff, Bool.and_eq_false_iff, Bool.not_eq_true', Bool.not_eq_false', decide_eq_true_eq, decide_eq_false_iff_not, Int.not_lt, Int.not_le, beq_iff_eq] at *; omega) | exact rfl)) | exact GW.no rfl rfl rfl rfl rfl rfl rfl | exact GW.none rfl rfl rfl rfl rfl | exact GW.may rfl rfl rfl rfl rfl rfl (fun hb => by (repeat (first | apply UW.yes rfl (gpf hb) | apply UW.no)); exact UW.nil (by first | exact AStepD.not rfl rfl | exact AStepD.neg rfl rfl (by first | exact IntWalk.i64_in _ (by omega) | exact IntWalk.i64_in _ (by simp only [Bool.or_eq_true, Bool.and_eq_true, Bool.or_eq_false_iff, Bool.and_eq_false_iff, Bool.not_eq_true', Bool.not_eq_false', decide_eq_true_eq, decide_eq_false_iff_not, Int.not_lt, Int.not_le, beq_iff_eq] at *; omega) | exact rfl))) | exact GW.may2 rfl rfl rfl rfl rfl rfl (fun _ hb => by (repeat (first | apply UW.yes rfl (gpf hb) | apply UW.no)); exact UW.nil (by first | exact AStepD.not rfl rfl | exact AStepD.neg rfl rfl (by first | exact IntWalk.i64_in _ (by omega) | exact IntWalk.i64_in _ (by simp only [Bool.or_eq_true, Bool.and_eq_true, Bool.or_eq_false_iff, Bool.and_eq_false_iff, Bool.not_eq_true', Bool.not_eq_false', decide_eq_true_eq, decide_eq_false_iff_not, Int.not_lt, Int.not_le, beq_iff_eq] at *; omega) | exact rfl))))) <| st qP312 <| st qP223 <| st (GW.p (l := [4]) (by first | exact GW.yes rfl rfl rfl rfl rfl rfl rfl (by exact AStepD.load_agg (cs := s.cs (vecA s.known)) (zs := s.cs (vecA s.known)) tok rfl rfl rfl g4 rfl (show _ = 134 from rfl) (by omega) qP42) | exact GW.no rfl rfl rfl rfl rfl rfl rfl | exact GW.none rfl rfl rfl rfl rfl | exact GW.may rfl rfl rfl rfl rfl rfl (fun hb => by (repeat (first | apply UW.yes rfl (gpf hb) | apply UW.no)); exact UW.nil (by exact AStepD.load_agg (cs := s.cs (vecA s.known)) (zs := s.cs (vecA s.known)) tok rfl rfl rfl g4 rfl (show _ = 134 from rfl) (by omega) qP42)) | exact GW.may2 rfl rfl rfl rfl rfl rfl (fun _ hb => by (repeat (first | apply UW.yes rfl (gpf hb) | apply UW.no)); exact UW.nil (by exact AStepD.load_agg (cs := s.cs (vecA s.known)) (zs := s.cs (vecA s.known)) tok rfl rfl rfl g4 rfl (show _ = 134 from rfl) (by omega) qP42)))) <| st (GW.p (l := [36]) (by first | exact GW.yes rfl rfl rfl rfl rfl rfl rfl (by exact AStepD.callf rfl en15 rfl (textx_calls _ s ok r)) | exact GW.no rfl rfl rfl rfl rfl rfl rfl | exact GW.none rfl rfl rfl rfl rfl | exact GW.may rfl rfl rfl rfl rfl rfl (fun hb => by (repeat (first | apply UW.yes rfl (gpf hb) | apply UW.no)); exact UW.nil (by exact AStepD.callf rfl en15 rfl (textx_calls _ s ok r))) | exact GW.may2 rfl rfl rfl rfl rfl rfl (fun _ hb => by (repeat (first | apply UW.yes rfl (gpf hb) | apply UW.no)); exact UW.nil (by exact AStepD.callf rfl en15 rfl (textx_calls _ s ok r))))) <| st (GW.p (l := [0]) qP318) <| st (GW.p (l := [37, 38]) (by first | exact GW.yes rfl rfl rfl rfl rfl rfl rfl (by exact AStepD.bool (AStepD.str_neq rfl rfl rfl) (c := decide (docT s ≠ t)) (by rw [str_list, str_list])) | exact GW.no rfl rfl rfl rfl rfl rfl rfl | exact GW.none rfl rfl rfl rfl rfl | exact GW.may rfl rfl rfl rfl rfl rfl (fun hb => by (repeat (first | apply UW.yes rfl (gpf hb) | apply UW.no)); exact UW.nil (by exact AStepD.bool (AStepD.str_neq rfl rfl rfl) (c := decide (docT s ≠ t)) (by rw [str_list, str_list]))) | exact GW.may2 rfl rfl rfl rfl rfl rfl (fun _ hb => by (repeat (first | apply UW.yes rfl (gpf hb) | apply UW.no)); exact UW.nil (by exact AStepD.bool (AStepD.str_neq rfl rfl rfl) (c := decide (docT s ≠ t)) (by rw [str_list, str_list]))))) <| st qP312 <| nt (hK _ _ ?_)
    clear hK K
    refine AW.cond _ rfl (fun hc => ?_) (fun hc => ?_)
    · have hne : docT s ≠ t := by simpa using hc
      have hno : parseP t = none := by rw [hP, if_neg fun h => hne h.2]
      refine rg fun K hK => ?_
      refine st (by exact SD.s rfl rfl rfl (by exact AStepD.val (AStepD.build tok rfl rfl rfl (by decide) rfl (fun _ h => absurd h List.not_mem_nil)) (y := .agg (zS.cs (.v (.slice none 0 0)))) (by rw [zS33]))) <| st0 (by exact ⟨rfl, rfl, (by exact AStepD.store' (k := 134) (cs := zS.cs (.v (.slice none 0 0))) (ys := zS.cs (.v (.slice none 0 0))) (zs := zS.cs (.v (.slice none 0 0))) tok rfl rfl g3 rfl rfl (zS.cs_one rfl) rfl (zS_ok.fc _) rfl (by rw [zS_ok.fc]; omega) (over_all (by rw [zS_ok.fc]; rfl)))⟩) <| st qP222 <| nt (hK _ _ ?_)
      clear hK K
      refine AW.ret (RetQ.sub (.inr rfl) (retA_agg (cs := zS.cs (.v (.slice none 0 0))) (zs := zS.cs (.v (.slice none 0 0))) rfl rfl rfl (AHeap.get_set_same _ _ _) rfl (show _ = 134 from rfl) (by rw [zS_ok.fc]; omega) (by rw [List.drop_zero]; exact List.take_of_length_le (by rw [zS_ok.fc]; omega)) (retA_tmp rfl qP21 retA_nil)) (SubV.tup2 (cs_sub zS (SubV.nil_vecA (α := Kn))) (.refl _)) ⟨?_, ?_⟩)
      · rw [hno]; rfl
      · exact hkp3.set (Nat.le_refl _)
    · have he : docT s = t := by simpa using hc
      have hyes : parseP t = some s := by rw [hP, if_pos ⟨hr, he⟩]
      refine AW.skip ?_
      refine hK5 _ _ ?_; try clear hK5 K5
      refine rg fun K hK => ?_
      refine st (by exact SD.s rfl rfl rfl (by exact AStepD.load_agg (cs := s.cs (vecA s.known)) (zs := s.cs (vecA s.known)) tok rfl rfl rfl g4 rfl (show _ = 134 from rfl) (by omega) qP42)) <| st0 (by exact ⟨rfl, rfl, (by exact AStepD.store' (k := 134) (cs := zS.cs (.v (.slice none 0 0))) (ys := s.cs (vecA s.known)) (zs := s.cs (vecA s.known)) tok rfl rfl g3 rfl rfl (Stt.cs_one _ rfl) rfl hcl rfl (by rw [zS_ok.fc]; omega) (over_all (by rw [zS_ok.fc, hcl]; rfl)))⟩) <| st qP222 <| nt (hK _ _ ?_)
      clear hK K
      refine AW.ret (RetQ.mk (.inr rfl) (retA_agg (cs := s.cs (vecA s.known)) (zs := s.cs (vecA s.known)) rfl rfl rfl (AHeap.get_set_same _ _ _) rfl (show _ = 134 from rfl) (by omega) qP42 (retA_tmp rfl qP21 retA_nil)) ⟨?_, ?_⟩)
      · rw [hyes]; rfl
      · exact hkp3.set (Nat.le_refl _)
  have hrf : rightB s = false := by simpa using hr
  have hno : parseP t = none := by rw [hP, if_neg fun h => hr h.1]
  by_cases hl0 : last = 0
  · refine rg fun K hK => ?_
    refine st qP223 <| st (by exact SD.s rfl rfl rfl (by exact AStepD.bool (AStepD.eql rfl rfl rfl) (c := true) (decide_eq_true (by omega)))) <| st qP223 <| st (GW.p (l := [4]) qX1010) <| st (GW.p (l := [31]) qX108) <| st (GW.p (l := [32]) (by first | exact GW.yes rfl rfl rfl rfl rfl rfl rfl (by first | exact AStepD.not rfl rfl | exact AStepD.neg rfl rfl (by first | exact IntWalk.i64_in _ (by omega) | exact IntWalk.i64_in _ (by simp only [Bool.or_eq_true, Bool.and_eq_true, Bool.or_eq_false_iff, Bool.and_eq_false_iff, Bool.not_eq_true', Bool.not_eq_false', decide_eq_true_eq, decide_eq_false_iff_not, Int.not_lt, Int.not_le, beq_iff_eq] at *; omega) | exact rfl)) | exact GW.no rfl rfl rfl rfl rfl rfl rfl | exact GW.none rfl rfl rfl rfl rfl | exact GW.may rfl rfl rfl rfl rfl rfl (fun hb => by (repeat (first | apply UW.yes rfl (gpf hb) | apply UW.no)); exact UW.nil (by first | exact AStepD.not rfl rfl | exact AStepD.neg rfl rfl (by first | exact IntWalk.i64_in _ (by omega) | exact IntWalk.i64_in _ (by simp only [Bool.or_eq_true, Bool.and_eq_true, Bool.or_eq_false_iff, Bool.and_eq_false_iff, Bool.not_eq_true', Bool.not_eq_false', decide_eq_true_eq, decide_eq_false_iff_not, Int.not_lt, Int.not_le, beq_iff_eq] at *; omega) | exact rfl))) | exact GW.may2 rfl rfl rfl rfl rfl rfl (fun _ hb => by (repeat (first | apply UW.yes rfl (gpf hb) | apply UW.no)); exact UW.nil (by first | exact AStepD.not rfl rfl | exact AStepD.neg rfl rfl (by first | exact IntWalk.i64_in _ (by omega) | exact IntWalk.i64_in _ (by simp only [Bool.or_eq_true, Bool.and_eq_true, Bool.or_eq_false_iff, Bool.and_eq_false_iff, Bool.not_eq_true', Bool.not_eq_false', decide_eq_true_eq, decide_eq_false_iff_not, Int.not_lt, Int.not_le, beq_iff_eq] at *; omega) | exact rfl))))) <| st qP312 <| st qP223 <| st (GW.p (l := [4]) qX1010) <| st (GW.p (l := [36]) qX108) <| st (GW.p (l := [0]) qP318) <| st (GW.p (l := [37, 38]) qX109) <| st qP312 <| nt (hK _ _ ?_)
    clear hK K
    refine AW.cond_true rfl rfl ?_
    refine rg fun K hK => ?_
    refine st (by exact SD.s rfl rfl rfl (by exact AStepD.val (AStepD.build tok rfl rfl rfl (by decide) rfl (fun _ h => absurd h List.not_mem_nil)) (y := .agg (zS.cs (.v (.slice none 0 0)))) (by rw [zS33]))) <| st0 (by exact ⟨rfl, rfl, (by exact AStepD.store' (k := 134) (cs := zS.cs (.v (.slice none 0 0))) (ys := zS.cs (.v (.slice none 0 0))) (zs := zS.cs (.v (.slice none 0 0))) tok rfl rfl g3 rfl rfl (zS.cs_one rfl) rfl (zS_ok.fc _) rfl (by rw [zS_ok.fc]; omega) (over_all (by rw [zS_ok.fc]; rfl)))⟩) <| st qP222 <| nt (hK _ _ ?_)
    clear hK K
    refine AW.ret (RetQ.sub (.inr rfl) (retA_agg (cs := zS.cs (.v (.slice none 0 0))) (zs := zS.cs (.v (.slice none 0 0))) rfl rfl rfl (AHeap.get_set_same _ _ _) rfl (show _ = 134 from rfl) (by rw [zS_ok.fc]; omega) (by rw [List.drop_zero]; exact List.take_of_length_le (by rw [zS_ok.fc]; omega)) (retA_tmp rfl qP21 retA_nil)) (SubV.tup2 (cs_sub zS (SubV.nil_vecA (α := Kn))) (.refl _)) ⟨?_, ?_⟩)
    · rw [hno]; rfl
    · exact hkp3.set (Nat.le_refl _)
  · refine rg fun K hK => ?_
    refine st qP223 <| st (by exact SD.s rfl rfl rfl (by exact AStepD.bool (AStepD.eql rfl rfl rfl) (c := false) (decide_eq_false (by omega)))) <| st qP223 <| st (GW.p (l := [4]) (by first | exact GW.yes rfl rfl rfl rfl rfl rfl rfl (by exact AStepD.load_agg (cs := s.cs (vecA s.known)) (zs := s.cs (vecA s.known)) tok rfl rfl rfl g4 rfl (show _ = 134 from rfl) (by omega) qP42) | exact GW.no rfl rfl rfl rfl rfl rfl rfl | exact GW.none rfl rfl rfl rfl rfl | exact GW.may rfl rfl rfl rfl rfl rfl (fun hb => by (repeat (first | apply UW.yes rfl (gpf hb) | apply UW.no)); exact UW.nil (by exact AStepD.load_agg (cs := s.cs (vecA s.known)) (zs := s.cs (vecA s.known)) tok rfl rfl rfl g4 rfl (show _ = 134 from rfl) (by omega) qP42)) | exact GW.may2 rfl rfl rfl rfl rfl rfl (fun _ hb => by (repeat (first | apply UW.yes rfl (gpf hb) | apply UW.no)); exact UW.nil (by exact AStepD.load_agg (cs := s.cs (vecA s.known)) (zs := s.cs (vecA s.known)) tok rfl rfl rfl g4 rfl (show _ = 134 from rfl) (by omega) qP42)))) <| st (GW.p (l := [31]) (by first | exact GW.yes rfl rfl rfl rfl rfl rfl rfl (by exact AStepD.val (AStepD.callf rfl en13 rfl (rightx_calls _ s ok)) (y := .v (.bool false)) (by rw [hrf])) | exact GW.no rfl rfl rfl rfl rfl rfl rfl | exact GW.none rfl rfl rfl rfl rfl | exact GW.may rfl rfl rfl rfl rfl rfl (fun hb => by (repeat (first | apply UW.yes rfl (gpf hb) | apply UW.no)); exact UW.nil (by exact AStepD.val (AStepD.callf rfl en13 rfl (rightx_calls _ s ok)) (y := .v (.bool false)) (by rw [hrf]))) | exact GW.may2 rfl rfl rfl rfl rfl rfl (fun _ hb => by (repeat (first | apply UW.yes rfl (gpf hb) | apply UW.no)); exact UW.nil (by exact AStepD.val (AStepD.callf rfl en13 rfl (rightx_calls _ s ok)) (y := .v (.bool false)) (by rw [hrf]))))) <| st (GW.p (l := [32]) (by first | exact GW.yes rfl rfl rfl rfl rfl rfl rfl (by first | exact AStepD.not rfl rfl | exact AStepD.neg rfl rfl (by first | exact IntWalk.i64_in _ (by omega) | exact IntWalk.i64_in _ (by simp only [Bool.or_eq_true, Bool.and_eq_true, Bool.or_eq_false_iff, Bool.and_eq_false_iff, Bool.not_eq_true', Bool.not_eq_false', decide_eq_true_eq, decide_eq_false_iff_not, Int.not_lt, Int.not_le, beq_iff_eq] at *; omega) | exact rfl)) | exact GW.no rfl rfl rfl rfl rfl rfl rfl | exact GW.none rfl rfl rfl rfl rfl | exact GW.may rfl rfl rfl rfl rfl rfl (fun hb => by (repeat (first | apply UW.yes rfl (gpf hb) | apply UW.no)); exact UW.nil (by first | exact AStepD.not rfl rfl | exact AStepD.neg rfl rfl (by first | exact IntWalk.i64_in _ (by omega) | exact IntWalk.i64_in _ (by simp only [Bool.or_eq_true, Bool.and_eq_true, Bool.or_eq_false_iff, Bool.and_eq_false_iff, Bool.not_eq_true', Bool.not_eq_false', decide_eq_true_eq, decide_eq_false_iff_not, Int.not_lt, Int.not_le, beq_iff_eq] at *; omega) | exact rfl))) | exact GW.may2 rfl rfl rfl rfl rfl rfl (fun _ hb => by (repeat (first | apply UW.yes rfl (gpf hb) | apply UW.no)); exact UW.nil (by first | exact AStepD.not rfl rfl | exact AStepD.neg rfl rfl (by first | exact IntWalk.i64_in _ (by omega) | exact IntWalk.i64_in _ (by simp only [Bool.or_eq_true, Bool.and_eq_true, Bool.or_eq_false_iff, Bool.and_eq_false_iff, Bool.not_eq_true', Bool.not_eq_false', decide_eq_true_eq, decide_eq_false_iff_not, Int.not_lt, Int.not_le, beq_iff_eq] at *; omega) | exact rfl))))) <| st qP312 <| st qP223 <| st (GW.p (l := [4]) qX1010) <| st (GW.p (l := [36]) qX108) <| st (GW.p (l := [0]) qP318) <| st (GW.p (l := [37, 38]) qX109) <| st qP312 <| nt (hK _ _ ?_)
    clear hK K
    refine AW.cond_true rfl rfl ?_
    refine rg fun K hK => ?_
    refine st (by exact SD.s rfl rfl rfl (by exact AStepD.val (AStepD.build tok rfl rfl rfl (by decide) rfl (fun _ h => absurd h List.not_mem_nil)) (y := .agg (zS.cs (.v (.slice none 0 0)))) (by rw [zS33]))) <| st0 (by exact ⟨rfl, rfl, (by exact AStepD.store' (k := 134) (cs := zS.cs (.v (.slice none 0 0))) (ys := zS.cs (.v (.slice none 0 0))) (zs := zS.cs (.v (.slice none 0 0))) tok rfl rfl g3 rfl rfl (zS.cs_one rfl) rfl (zS_ok.fc _) rfl (by rw [zS_ok.fc]; omega) (over_all (by rw [zS_ok.fc]; rfl)))⟩) <| st qP222 <| nt (hK _ _ ?_)
    clear hK K
    refine AW.ret (RetQ.sub (.inr rfl) (retA_agg (cs := zS.cs (.v (.slice none 0 0))) (zs := zS.cs (.v (.slice none 0 0))) rfl rfl rfl (AHeap.get_set_same _ _ _) rfl (show _ = 134 from rfl) (by rw [zS_ok.fc]; omega) (by rw [List.drop_zero]; exact List.take_of_length_le (by rw [zS_ok.fc]; omega)) (retA_tmp rfl qP21 retA_nil)) (SubV.tup2 (cs_sub zS (SubV.nil_vecA (α := Kn))) (.refl _)) ⟨?_, ?_⟩)
    · rw [hno]; rfl
    · exact hkp3.set (Nat.le_refl _)
end Go.Proofs.YtbcanlmpfhkklaaGreatDoor
