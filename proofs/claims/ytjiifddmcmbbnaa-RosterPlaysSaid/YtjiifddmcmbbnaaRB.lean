/- The walks of the roster's questions. -/
import Derived.Test.YtjiifddmcmbbnaaRA
namespace Go.Proofs.Ytjiifddmcmbbnaa
open Go.Ax
theorem qRB1 {p : Prop} (h : p := by exact AStepD.geq rfl rfl rfl) : p := h
theorem qRB2 {p : Prop} (h : p := by exact AStepD.leq rfl rfl rfl) : p := h
theorem qRB3 {p : Prop} (h : p := by first | exact AStepD.nilCheck_ptr rfl rfl | exact AStepD.nilCheck_ip rfl rfl | exact AStepD.nilCheck_func rfl rfl) : p := h
theorem qRB4 {p : Prop} (h : p := by simp only [Nat.reduceAdd]; exact rfl) : p := h
theorem qRB5 {p : Prop} (h : p := by first | exact AStepD.load_one tok rfl rfl rfl rfl qRA6 rfl qRA7 | exact AStepD.load_one_ip tok rfl rfl rfl rfl rfl qRA7) : p := h
theorem qRB6 {p : Prop} (h : p := by exact AStepD.extract rfl rfl rfl) : p := h
theorem qRB7 {p : Prop} (h : p := by exact (fun hb => by (try (apply AStepD.uncond 7 rfl (gpf hb))); exact qRA19)) : p := h
theorem qRB8 {p : Prop} (h : p := by exact (fun _ hb => by (try (apply AStepD.uncond 7 rfl (gpf hb))); exact qRA19)) : p := h
theorem qRB9 {p : Prop} (h : p := by first | exact AStepD.not rfl rfl | exact AStepD.neg rfl rfl qRA10) : p := h
theorem qRB10 {p : Prop} (h : p := by exact (fun hb => by (try (apply AStepD.uncond 6 rfl (gpf hb))); exact qRB2)) : p := h
theorem qRB11 {p : Prop} (h : p := by exact (fun _ hb => by (try (apply AStepD.uncond 6 rfl (gpf hb))); exact qRB2)) : p := h
theorem qRB12 {p : Prop} (h : p := by first | exact Nat.zero_add 2 | exact (show _ + 2 = _ from qRB4) | exact (show _ + 2 = _ + 2 from rfl) | exact rfl) : p := h
theorem qRB13 {p : Prop} (h : p := by exact (fun hb => by (try (apply AStepD.uncond 20 rfl (gpf hb))); (try (apply AStepD.uncond 21 rfl (gpf hb))); exact qRB1)) : p := h
theorem qRB14 {p : Prop} (h : p := by exact (fun _ hb => by (try (apply AStepD.uncond 20 rfl (gpf hb))); (try (apply AStepD.uncond 21 rfl (gpf hb))); exact qRB1)) : p := h
theorem qRB15 {p : Prop} (h : p := by first | exact Nat.zero_add 0 | exact (show _ + 0 = _ from qRB4) | exact (show _ + 0 = _ + 0 from rfl) | exact rfl) : p := h
theorem qRB16 {p : Prop} (h : p := by first | exact AStepD.fieldAddr' tok rfl rfl rfl rfl rfl rfl rfl (by first | exact Nat.zero_add 1 | exact (show _ + 1 = _ from qRB4) | exact (show _ + 1 = _ + 1 from rfl) | exact rfl) | exact AStepD.fieldAddr_ip' tok rfl rfl rfl rfl rfl rfl rfl (show List.drop 1 _ = _ from rfl)) : p := h
theorem qRB17 {p : Prop} (h : p := by first | exact AStepD.fieldAddr' tok rfl rfl rfl rfl rfl rfl rfl qRB12 | exact AStepD.fieldAddr_ip' tok rfl rfl rfl rfl rfl rfl rfl (show List.drop 2 _ = _ from rfl)) : p := h
theorem qRB18 {p : Prop} (h : p := by first | exact AStepD.fieldAddr' tok rfl rfl rfl rfl rfl rfl rfl qRB15 | exact AStepD.fieldAddr_ip' tok rfl rfl rfl rfl rfl rfl rfl List.drop_zero) : p := h
set_option linter.unusedSimpArgs false
set_option linter.unusedVariables false

def idB (a : Int) : Bool := decide (1 ≤ a) && decide (a ≤ 4294967296)
def timeB (a : Int) : Bool := decide (0 ≤ a) && decide (a ≤ 1099511627776)

theorem id_calls (H : AHeap) (a : Int) : ACalls Try.prog 27 [.v (.int .i64 a)] H (fun r H' => r = .v (.bool (idB a)) ∧ H' = H) := by
  refine ACalls.of_body tok Try.func27 rfl Try.ntmps27 (Nat.le_of_ble_eq_true rfl) ?_
  refine AW.seq_region (fun K hK => ?_)
  refine AL.step rfl rfl rfl qRA18 ?_
  refine AL.nil_then (hK _ _ ?_); clear hK K
  refine AW.seq_region (fun K hK => ?_)
  refine AL.step rfl rfl rfl qRA19 ?_
  refine AL.step rfl rfl rfl qRB1 ?_
  refine AL.step rfl rfl rfl qRA19 ?_
  first | refine AL.gstep rfl rfl rfl rfl rfl rfl rfl qRA19 ?_ | refine AL.gskip rfl rfl rfl rfl rfl rfl rfl ?_ | refine AL.gnone rfl rfl rfl rfl rfl ?_ | refine AL.gmay rfl rfl rfl rfl rfl rfl qRA32 ?_ | refine AL.gmay2 rfl rfl rfl rfl rfl rfl qRA33 ?_
  first | refine AL.gstep rfl rfl rfl rfl rfl rfl rfl qRB2 ?_ | refine AL.gskip rfl rfl rfl rfl rfl rfl rfl ?_ | refine AL.gnone rfl rfl rfl rfl rfl ?_ | refine AL.gmay rfl rfl rfl rfl rfl rfl qRB10 ?_ | refine AL.gmay2 rfl rfl rfl rfl rfl rfl qRB11 ?_
  refine AL.step rfl rfl rfl qRA28 ?_
  refine AL.step rfl rfl rfl qRA18 ?_
  refine AL.nil_then (hK _ _ ?_); clear hK K
  refine AW.ret (RetQ.mk (.inr rfl) (retA_tmp rfl qRA1 retA_nil) ⟨rfl, rfl⟩)
theorem time_calls (H : AHeap) (a : Int) : ACalls Try.prog 41 [.v (.int .i64 a)] H (fun r H' => r = .v (.bool (timeB a)) ∧ H' = H) := by
  refine ACalls.of_body tok Try.func41 rfl Try.ntmps41 (Nat.le_of_ble_eq_true rfl) ?_
  refine AW.seq_region (fun K hK => ?_)
  refine AL.step rfl rfl rfl qRA18 ?_
  refine AL.nil_then (hK _ _ ?_); clear hK K
  refine AW.seq_region (fun K hK => ?_)
  refine AL.step rfl rfl rfl qRA19 ?_
  refine AL.step rfl rfl rfl qRB1 ?_
  refine AL.step rfl rfl rfl qRA19 ?_
  first | refine AL.gstep rfl rfl rfl rfl rfl rfl rfl qRA19 ?_ | refine AL.gskip rfl rfl rfl rfl rfl rfl rfl ?_ | refine AL.gnone rfl rfl rfl rfl rfl ?_ | refine AL.gmay rfl rfl rfl rfl rfl rfl qRA32 ?_ | refine AL.gmay2 rfl rfl rfl rfl rfl rfl qRA33 ?_
  first | refine AL.gstep rfl rfl rfl rfl rfl rfl rfl qRB2 ?_ | refine AL.gskip rfl rfl rfl rfl rfl rfl rfl ?_ | refine AL.gnone rfl rfl rfl rfl rfl ?_ | refine AL.gmay rfl rfl rfl rfl rfl rfl qRB10 ?_ | refine AL.gmay2 rfl rfl rfl rfl rfl rfl qRB11 ?_
  refine AL.step rfl rfl rfl qRA28 ?_
  refine AL.step rfl rfl rfl qRA18 ?_
  refine AL.nil_then (hK _ _ ?_); clear hK K
  refine AW.ret (RetQ.mk (.inr rfl) (retA_tmp rfl qRA1 retA_nil) ⟨rfl, rfl⟩)

def bansA (bs : List (Int × Int)) : List (Int × AV) := bs.map fun p => (p.1, .v (.int .i64 p.2))
def getB (bs : List (Int × Int)) (w : Int) : Option Int :=
  match bs with
  | [] => none
  | p :: r => if p.1 = w then some p.2 else getB r w
def putB (bs : List (Int × Int)) (w u : Int) : List (Int × Int) :=
  match bs with
  | [] => [(w, u)]
  | p :: r => if p.1 = w then (w, u) :: r else p :: putB r w u
def delB (bs : List (Int × Int)) (w : Int) : List (Int × Int) :=
  match bs with
  | [] => []
  | p :: r => if p.1 = w then r else p :: delB r w
theorem getI_bans (bs : List (Int × Int)) (w : Int) : getI (bansA bs) w = (getB bs w).map fun u => .v (.int .i64 u) := by
  induction bs with
  | nil => rfl
  | cons p r ih =>
    simp only [bansA, List.map_cons, getI, getB] at ih ⊢
    split
    · rfl
    · exact ih
theorem putI_bans (bs : List (Int × Int)) (w u : Int) : putI (bansA bs) w (.v (.int .i64 u)) = bansA (putB bs w u) := by
  induction bs with
  | nil => rfl
  | cons p r ih =>
    simp only [bansA, List.map_cons, putI, putB] at ih ⊢
    split
    · rfl
    · rw [ih]; rfl
theorem delI_bans (bs : List (Int × Int)) (w : Int) : delI (bansA bs) w = bansA (delB bs w) := by
  induction bs with
  | nil => rfl
  | cons p r ih =>
    simp only [bansA, List.map_cons, delI, delB] at ih ⊢
    split
    · rfl
    · rw [ih]; rfl

/-- A roster. -/
structure Ros where
  self : Int
  ms : List Mem
  bs : List (Int × Int)
  cur : Nat
def RosAt (H : AHeap) (n L B : Nat) (r : Ros) : Prop :=
  ∃ x0, H.get n = some (.cells 62 [.v (.int .i64 r.self), x0, .map B, .v (.int .i64 r.cur)]) ∧ MemsAt H L x0 r.ms ∧ H.get B = some (.map (imap .i64 (bansA r.bs)))
theorem RosAt.same {H H' : AHeap} {n L B : Nat} {r : Ros} (h : RosAt H n L B r) (h1 : H'.get n = H.get n) (h2 : H'.get L = H.get L) (h3 : H'.get B = H.get B) : RosAt H' n L B r := by
  obtain ⟨x0, g1, g2, g3⟩ := h
  exact ⟨x0, h1.trans g1, g2.same h2, h3.trans g3⟩
theorem MemsAt.keep {H H' : AHeap} {L : Nat} {x : AV} {ms : List Mem} (h : MemsAt H L x ms) (hlt : ∀ l q, H.get l = some q → l < H.next) (hk : Keep H H') : MemsAt H' L x ms := by
  cases h with
  | nil => exact .nil
  | sl h => exact .sl (hk.get h (hlt _ _ h))
theorem RosAt.keep {H H' : AHeap} {n L B : Nat} {r : Ros} (h : RosAt H n L B r) (hlt : ∀ l q, H.get l = some q → l < H.next) (hk : Keep H H') : RosAt H' n L B r := by
  obtain ⟨x0, g1, g2, g3⟩ := h
  exact ⟨x0, hk.get g1 (hlt _ _ g1), g2.keep hlt hk, hk.get g3 (hlt _ _ g3)⟩

def banned (bs : List (Int × Int)) (w t : Int) : Bool := match getB bs w with | some u => decide (t ≤ u) | none => false

theorem banned_calls (H : AHeap) (n L B : Nat) (r : Ros) (w t : Int) (hR : RosAt H n L B r) :
    ACalls Try.prog 18 [.ptr n 0, .v (.int .i64 w), .v (.int .i64 t)] H (fun v H' => v = .v (.bool (banned r.bs w t)) ∧ H' = H) := by
  obtain ⟨x0, hn, hM, hB⟩ := hR
  have hx1 := hM.one
  have hg := getI_bans r.bs w
  refine ACalls.of_body tok Try.func18 rfl Try.ntmps18 (Nat.le_of_ble_eq_true rfl) ?_
  refine AW.seq_region (fun K hK => ?_)
  refine AL.step rfl rfl rfl qRA18 ?_
  refine AL.nil_then (hK _ _ ?_); clear hK K
  cases hgb : getB r.bs w with
  | none =>
    rw [hgb] at hg
    refine AW.seq_region (fun K hK => ?_)
    refine AL.step rfl rfl rfl qRA19 ?_
    refine AL.step rfl rfl rfl qRB3 ?_
    refine AL.step rfl rfl rfl qRB17 ?_
    refine AL.step rfl rfl rfl qRB5 ?_
    refine AL.step rfl rfl rfl qRA19 ?_
    refine AL.step rfl rfl rfl (by exact AStepD.lookup tok rfl rfl rfl rfl rfl rfl rfl rfl hB hg) ?_
    refine AL.step rfl rfl rfl qRA19 ?_
    refine AL.step rfl rfl rfl qRB6 ?_
    refine AL.step rfl rfl rfl qRB6 ?_
    refine AL.step rfl rfl rfl qRA18 ?_
    refine AL.step rfl rfl rfl qRA18 ?_
    refine AL.nil_then (hK _ _ ?_); clear hK K
    refine AW.seq_region (fun K hK => ?_)
    refine AL.step rfl rfl rfl qRA19 ?_
    refine AL.step rfl rfl rfl qRA19 ?_
    first | refine AL.gstep rfl rfl rfl rfl rfl rfl rfl qRA19 ?_ | refine AL.gskip rfl rfl rfl rfl rfl rfl rfl ?_ | refine AL.gnone rfl rfl rfl rfl rfl ?_ | refine AL.gmay rfl rfl rfl rfl rfl rfl qRB7 ?_ | refine AL.gmay2 rfl rfl rfl rfl rfl rfl qRB8 ?_
    first | refine AL.gstep rfl rfl rfl rfl rfl rfl rfl qRA19 ?_ | refine AL.gskip rfl rfl rfl rfl rfl rfl rfl ?_ | refine AL.gnone rfl rfl rfl rfl rfl ?_ | refine AL.gmay rfl rfl rfl rfl rfl rfl qRA30 ?_ | refine AL.gmay2 rfl rfl rfl rfl rfl rfl qRA31 ?_
    first | refine AL.gstep rfl rfl rfl rfl rfl rfl rfl qRB1 ?_ | refine AL.gskip rfl rfl rfl rfl rfl rfl rfl ?_ | refine AL.gnone rfl rfl rfl rfl rfl ?_ | refine AL.gmay rfl rfl rfl rfl rfl rfl qRB13 ?_ | refine AL.gmay2 rfl rfl rfl rfl rfl rfl qRB14 ?_
    refine AL.step rfl rfl rfl qRA28 ?_
    refine AL.step rfl rfl rfl qRA18 ?_
    refine AL.nil_then (hK _ _ ?_); clear hK K
    refine AW.ret (RetQ.mk (.inr rfl) (retA_tmp rfl qRA1 retA_nil) ⟨?_, rfl⟩)
    simp [banned, hgb, tupA]
  | some u =>
    rw [hgb] at hg
    refine AW.seq_region (fun K hK => ?_)
    refine AL.step rfl rfl rfl qRA19 ?_
    refine AL.step rfl rfl rfl qRB3 ?_
    refine AL.step rfl rfl rfl qRB17 ?_
    refine AL.step rfl rfl rfl qRB5 ?_
    refine AL.step rfl rfl rfl qRA19 ?_
    refine AL.step rfl rfl rfl (by exact AStepD.lookup tok rfl rfl rfl rfl rfl rfl rfl rfl hB hg) ?_
    refine AL.step rfl rfl rfl qRA19 ?_
    refine AL.step rfl rfl rfl qRB6 ?_
    refine AL.step rfl rfl rfl qRB6 ?_
    refine AL.step rfl rfl rfl qRA18 ?_
    refine AL.step rfl rfl rfl qRA18 ?_
    refine AL.nil_then (hK _ _ ?_); clear hK K
    refine AW.seq_region (fun K hK => ?_)
    refine AL.step rfl rfl rfl qRA19 ?_
    refine AL.step rfl rfl rfl qRA19 ?_
    first | refine AL.gstep rfl rfl rfl rfl rfl rfl rfl qRA19 ?_ | refine AL.gskip rfl rfl rfl rfl rfl rfl rfl ?_ | refine AL.gnone rfl rfl rfl rfl rfl ?_ | refine AL.gmay rfl rfl rfl rfl rfl rfl qRB7 ?_ | refine AL.gmay2 rfl rfl rfl rfl rfl rfl qRB8 ?_
    first | refine AL.gstep rfl rfl rfl rfl rfl rfl rfl qRA19 ?_ | refine AL.gskip rfl rfl rfl rfl rfl rfl rfl ?_ | refine AL.gnone rfl rfl rfl rfl rfl ?_ | refine AL.gmay rfl rfl rfl rfl rfl rfl qRA30 ?_ | refine AL.gmay2 rfl rfl rfl rfl rfl rfl qRA31 ?_
    first | refine AL.gstep rfl rfl rfl rfl rfl rfl rfl qRB1 ?_ | refine AL.gskip rfl rfl rfl rfl rfl rfl rfl ?_ | refine AL.gnone rfl rfl rfl rfl rfl ?_ | refine AL.gmay rfl rfl rfl rfl rfl rfl qRB13 ?_ | refine AL.gmay2 rfl rfl rfl rfl rfl rfl qRB14 ?_
    refine AL.step rfl rfl rfl qRA28 ?_
    refine AL.step rfl rfl rfl qRA18 ?_
    refine AL.nil_then (hK _ _ ?_); clear hK K
    refine AW.ret (RetQ.mk (.inr rfl) (retA_tmp rfl qRA1 retA_nil) ⟨?_, rfl⟩)
    simp [banned, hgb, tupA]

def asked (self w t : Int) : Int := if !idB w || !timeB t then 10 else if w = self then 33 else 0

theorem asked_calls (H : AHeap) (n L B : Nat) (r : Ros) (w t : Int) (hR : RosAt H n L B r) :
    ACalls Try.prog 30 [.ptr n 0, .v (.int .i64 w), .v (.int .i64 t)] H (fun v H' => v = .v (.int .i64 (asked r.self w t)) ∧ H' = H) := by
  obtain ⟨x0, hn, hM, hB⟩ := hR
  have hx1 := hM.one
  refine ACalls.of_body tok Try.func30 rfl Try.ntmps30 (Nat.le_of_ble_eq_true rfl) ?_
  refine AW.seq_region (fun K hK => ?_)
  refine AL.step rfl rfl rfl qRA18 ?_
  refine AL.nil_then (hK _ _ ?_); clear hK K
  refine AW.seq_k (fun K hK => ?_)
  refine AW.block ?_
  refine AW.seq_region (fun K hK => ?_)
  refine AL.step rfl rfl rfl qRA19 ?_
  refine AL.step rfl rfl rfl (by exact AStepD.callf rfl en27 rfl (id_calls _ w)) ?_
  refine AL.step rfl rfl rfl qRB9 ?_
  refine AL.step rfl rfl rfl qRA19 ?_
  first | refine AL.gstep rfl rfl rfl rfl rfl rfl rfl qRA19 ?_ | refine AL.gskip rfl rfl rfl rfl rfl rfl rfl ?_ | refine AL.gnone rfl rfl rfl rfl rfl ?_ | refine AL.gmay rfl rfl rfl rfl rfl rfl qRA30 ?_ | refine AL.gmay2 rfl rfl rfl rfl rfl rfl qRA31 ?_
  first | refine AL.gstep rfl rfl rfl rfl rfl rfl rfl (by exact AStepD.callf rfl en41 rfl (time_calls _ t)) ?_ | refine AL.gskip rfl rfl rfl rfl rfl rfl rfl ?_ | refine AL.gnone rfl rfl rfl rfl rfl ?_ | refine AL.gmay rfl rfl rfl rfl rfl rfl (fun hb => by (try (apply AStepD.uncond 12 rfl (gpf hb))); exact (by exact AStepD.callf rfl en41 rfl (time_calls _ t))) ?_ | refine AL.gmay2 rfl rfl rfl rfl rfl rfl (fun _ hb => by (try (apply AStepD.uncond 12 rfl (gpf hb))); exact (by exact AStepD.callf rfl en41 rfl (time_calls _ t))) ?_
  first | refine AL.gstep rfl rfl rfl rfl rfl rfl rfl qRB9 ?_ | refine AL.gskip rfl rfl rfl rfl rfl rfl rfl ?_ | refine AL.gnone rfl rfl rfl rfl rfl ?_ | refine AL.gmay rfl rfl rfl rfl rfl rfl (fun hb => by (try (apply AStepD.uncond 13 rfl (gpf hb))); exact qRB9) ?_ | refine AL.gmay2 rfl rfl rfl rfl rfl rfl (fun _ hb => by (try (apply AStepD.uncond 13 rfl (gpf hb))); exact qRB9) ?_
  refine AL.step rfl rfl rfl qRA28 ?_
  refine AL.step rfl rfl rfl qRA18 ?_
  refine AL.nil_then (hK _ _ ?_); clear hK K
  refine AW.cond _ rfl (fun hc => ?_) (fun hc => ?_)
  · refine AW.seq_region (fun K hK => ?_)
    refine AL.step rfl rfl rfl qRA18 ?_
    refine AL.nil_then (hK _ _ ?_); clear hK K
    refine AW.ret (RetQ.mk (.inr rfl) (retA_tmp rfl qRA1 retA_nil) ⟨?_, rfl⟩)
    rw [asked, if_pos hc]; rfl
  · refine AW.seq_region (fun K hK => ?_)
    refine AL.step rfl rfl rfl qRA19 ?_
    refine AL.step rfl rfl rfl qRA19 ?_
    refine AL.step rfl rfl rfl qRB3 ?_
    refine AL.step rfl rfl rfl qRB18 ?_
    refine AL.step rfl rfl rfl qRB5 ?_
    refine AL.step rfl rfl rfl qRA16 ?_
    refine AL.step rfl rfl rfl qRA18 ?_
    refine AL.nil_then (hK _ _ ?_); clear hK K
    refine AW.cond _ rfl (fun hc2 => ?_) (fun hc2 => ?_)
    · refine AW.seq_region (fun K hK => ?_)
      refine AL.step rfl rfl rfl qRA18 ?_
      refine AL.nil_then (hK _ _ ?_); clear hK K
      refine AW.ret (RetQ.mk (.inr rfl) (retA_tmp rfl qRA1 retA_nil) ⟨?_, rfl⟩)
      rw [asked, if_neg (by rw [hc]; decide), if_pos (of_decide_eq_true hc2)]; rfl
    · refine AW.skip (hK _ _ ?_); clear hK K
      refine AW.seq_region (fun K hK => ?_)
      refine AL.step rfl rfl rfl qRA18 ?_
      refine AL.nil_then (hK _ _ ?_); clear hK K
      refine AW.ret (RetQ.mk (.inr rfl) (retA_tmp rfl qRA1 retA_nil) ⟨?_, rfl⟩)
      rw [asked, if_neg (by rw [hc]; decide), if_neg (of_decide_eq_false hc2)]; rfl

theorem find_calls (H : AHeap) (n L B : Nat) (r : Ros) (w : Int) (hR : RosAt H n L B r) (hs : Sorted r.ms) (hl : r.ms.length ≤ 1000) :
    ACalls Try.prog 29 [.ptr n 0, .v (.int .i64 w)] H (fun v H' => v = .tup [.v (.int .i64 (pos r.ms w)), .v (.bool (has r.ms w))] ∧ H' = H) := by
  obtain ⟨x0, hn, hM, hB⟩ := hR
  have hx1 := hM.one
  refine ACalls.of_body tok Try.func29 rfl Try.ntmps29 (Nat.le_of_ble_eq_true rfl) ?_
  refine AW.seq_region (fun K hK => ?_)
  refine AL.step rfl rfl rfl qRA18 ?_
  refine AL.step rfl rfl rfl qRA18 ?_
  refine AL.nil_then (hK _ _ ?_); clear hK K
  refine AW.seq_region (fun K hK => ?_)
  refine AL.step rfl rfl rfl qRA19 ?_
  refine AL.step rfl rfl rfl qRB3 ?_
  refine AL.step rfl rfl rfl qRB16 ?_
  refine AL.step rfl rfl rfl qRB5 ?_
  refine AL.step rfl rfl rfl qRA19 ?_
  refine AL.step rfl rfl rfl (by exact AStepD.callf rfl en38 rfl (search_calls _ L x0 r.ms w hM hs hl)) ?_
  refine AL.step rfl rfl rfl qRB6 ?_
  refine AL.step rfl rfl rfl qRB6 ?_
  refine AL.step rfl rfl rfl qRA18 ?_
  refine AL.step rfl rfl rfl qRA18 ?_
  refine AL.nil_then (hK _ _ ?_); clear hK K
  refine AW.ret (RetQ.mk (.inr rfl) (retA_tmp rfl qRA1 (retA_tmp rfl qRA1 retA_nil)) ⟨rfl, rfl⟩)

theorem self_calls (H : AHeap) (n L B : Nat) (r : Ros) (hR : RosAt H n L B r) :
    ACalls Try.prog 26 [.ptr n 0] H (fun v H' => v = .v (.int .i64 r.self) ∧ H' = H) := by
  obtain ⟨x0, hn, hM, hB⟩ := hR
  have hx1 := hM.one
  refine ACalls.of_body tok Try.func26 rfl Try.ntmps26 (Nat.le_of_ble_eq_true rfl) ?_
  refine AW.seq_region (fun K hK => ?_)
  refine AL.step rfl rfl rfl qRA18 ?_
  refine AL.nil_then (hK _ _ ?_); clear hK K
  refine AW.seq_region (fun K hK => ?_)
  refine AL.step rfl rfl rfl qRA19 ?_
  refine AL.step rfl rfl rfl qRB3 ?_
  refine AL.step rfl rfl rfl qRB18 ?_
  refine AL.step rfl rfl rfl qRB5 ?_
  refine AL.step rfl rfl rfl qRA18 ?_
  refine AL.nil_then (hK _ _ ?_); clear hK K
  refine AW.ret (RetQ.mk (.inr rfl) (retA_tmp rfl qRA1 retA_nil) ⟨rfl, rfl⟩)

theorem new_ok (H : AHeap) (a : Int) (ha : idB a = true) :
    ACalls Try.prog 11 [.v (.int .i64 a)] H (fun v H' => v = .tup [.ptr (H.next + 1) 0, .v (.int .i64 0)] ∧ RosAt H' (H.next + 1) (H.next + 1) H.next ⟨a, [], [], 0⟩ ∧ Keep H H' ∧ H'.next = H.next + 2) := by
  refine ACalls.of_body tok Try.func11 rfl Try.ntmps11 (Nat.le_of_ble_eq_true rfl) ?_
  refine AW.seq_region (fun K hK => ?_)
  refine AL.step rfl rfl rfl qRA18 ?_
  refine AL.step rfl rfl rfl qRA18 ?_
  refine AL.nil_then (hK _ _ ?_); clear hK K
  refine AW.seq_k (fun K hK => ?_)
  refine AW.seq_region (fun K hK => ?_)
  refine AL.step rfl rfl rfl qRA19 ?_
  refine AL.step rfl rfl rfl (by exact AStepD.callf rfl en27 rfl (id_calls _ a)) ?_
  refine AL.step rfl rfl rfl qRB9 ?_
  refine AL.nil_then (hK _ _ ?_); clear hK K
  refine AW.cond_false rfl (by rw [ha]; rfl) (AW.skip (hK _ _ ?_)); clear hK K
  refine AW.seq_region (fun K hK => ?_)
  refine AL.step rfl rfl rfl qRA19 ?_
  refine AL.step rfl rfl rfl (by exact AStepD.makeMap rfl) ?_
  refine AL.step rfl rfl rfl (by exact AStepD.build tok rfl rfl rfl (by decide) rfl (show ∀ p ∈ [((0 : Nat), AV.v (.int .i64 a)), (2, AV.map H.next)], ∀ x ∈ p.2.cells, x.one = true from by simp [AV.cells, AV.one, Value.oneCell'])) ?_
  refine AL.step rfl rfl rfl (by exact AStepD.box rfl (show _ = [AV.v (.int .i64 a), .v (.slice none 0 0), .map H.next, .v (.int .i64 0)] from rfl) (by simp [AV.one, Value.oneCell'])) ?_
  refine AL.step rfl rfl rfl qRA18 ?_
  refine AL.step rfl rfl rfl qRA18 ?_
  refine AL.nil_then (hK _ _ ?_); clear hK K
  refine AW.ret (RetQ.mk (.inr rfl) (retA_tmp rfl qRA1 (retA_tmp rfl qRA1 retA_nil)) ⟨rfl, ⟨_, ?_, .nil, ?_⟩, qRA8, rfl⟩)
  · exact qRA6
  · exact qRA6
theorem new_none (H : AHeap) (a : Int) (ha : idB a = false) :
    ACalls Try.prog 11 [.v (.int .i64 a)] H (fun v H' => v = .tup [.v (.pointer none), .v (.int .i64 10)] ∧ H' = H) := by
  refine ACalls.of_body tok Try.func11 rfl Try.ntmps11 (Nat.le_of_ble_eq_true rfl) ?_
  refine AW.seq_region (fun K hK => ?_)
  refine AL.step rfl rfl rfl qRA18 ?_
  refine AL.step rfl rfl rfl qRA18 ?_
  refine AL.nil_then (hK _ _ ?_); clear hK K
  refine AW.seq_k (fun K hK => ?_)
  refine AW.seq_region (fun K hK => ?_)
  refine AL.step rfl rfl rfl qRA19 ?_
  refine AL.step rfl rfl rfl (by exact AStepD.callf rfl en27 rfl (id_calls _ a)) ?_
  refine AL.step rfl rfl rfl qRB9 ?_
  refine AL.nil_then (hK _ _ ?_); clear hK K
  refine AW.cond_true rfl (by rw [ha]; rfl) ?_
  refine AW.seq_region (fun K hK => ?_)
  refine AL.step rfl rfl rfl qRA18 ?_
  refine AL.step rfl rfl rfl qRA18 ?_
  refine AL.nil_then (hK _ _ ?_); clear hK K
  refine AW.ret (RetQ.mk (.inr rfl) (retA_tmp rfl qRA1 (retA_tmp rfl qRA1 retA_nil)) ⟨rfl, rfl⟩)
end Go.Proofs.Ytjiifddmcmbbnaa
