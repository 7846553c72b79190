/- A state, plainly, and when it is right. -/
import Derived.Test.YtcomjodfkcnjhaaGreatDoorCN1
set_option linter.unusedSimpArgs false
set_option linter.unusedVariables false
namespace Go.Proofs.YtcomjodfkcnjhaaGreatDoor
open Go.Ax
open Cel (c)
set_option linter.unusedSimpArgs false
set_option linter.unusedVariables false

structure Kn where
  id : Int
  master : Int
  cfg : Int
deriving DecidableEq
instance : Cel Kn := ⟨3, fun k => [.v (.int .i64 k.id), .v (.int .i64 k.master), .v (.int .i64 k.cfg)], fun _ => rfl,
  fun _ z hz => (by simp only [List.mem_cons, List.not_mem_nil, or_false] at hz; rcases hz with rfl | rfl | rfl <;> rfl),
  fun _ z hz => (by simp only [List.mem_cons, List.not_mem_nil, or_false] at hz; rcases hz with rfl | rfl | rfl <;> exact .v _)⟩
structure Stt where
  id : Int
  master : Int
  cur : Int
  vote : Int
  cfg : Int
  known : List Kn
  own : List Int
  epo : List Int
deriving DecidableEq
structure Stt.Ok (s : Stt) : Prop where
  o : s.own.length = 64
  e : s.epo.length = 64
def Stt.tab (s : Stt) : List AV := flat s.own ++ flat s.epo
def Stt.cs (s : Stt) (y : AV) : List AV := .v (.int .i64 s.id) :: .v (.int .i64 s.master) :: .v (.int .i64 s.cur) :: .v (.int .i64 s.vote) :: .v (.int .i64 s.cfg) :: y :: s.tab
abbrev stA (s : Stt) : AV := .agg (s.cs (vecA s.known))
theorem Stt.Ok.fo {s : Stt} (h : s.Ok) : (flat s.own).length = 64 := (flat_length _).trans (by rw [h.o]; rfl)
theorem Stt.Ok.fe {s : Stt} (h : s.Ok) : (flat s.epo).length = 64 := (flat_length _).trans (by rw [h.e]; rfl)
theorem Stt.Ok.ft {s : Stt} (h : s.Ok) : s.tab.length = 128 := by rw [Stt.tab, List.length_append, h.fo, h.fe]
theorem Stt.Ok.fc {s : Stt} (h : s.Ok) (y : AV) : (s.cs y).length = 134 := by rw [Stt.cs]; simp only [List.length_cons]; rw [h.ft]
theorem Stt.tab_one (s : Stt) : ∀ z ∈ s.tab, z.one = true := fun z hz => (List.mem_append.1 hz).elim (flat_ones _ z) (flat_ones _ z)
theorem Stt.tab_pl (s : Stt) : ∀ z ∈ s.tab, Plain z := fun z hz => (List.mem_append.1 hz).elim (flat_plain _ z) (flat_plain _ z)
theorem Stt.cs_one (s : Stt) {y : AV} (hy : y.one = true) : ∀ z ∈ s.cs y, z.one = true := by
  intro z hz
  simp only [Stt.cs, List.mem_cons] at hz
  rcases hz with rfl | rfl | rfl | rfl | rfl | rfl | hz
  iterate 5 rfl
  · exact hy
  · exact s.tab_one z hz
theorem Stt.cs_pl (s : Stt) {y : AV} (hy : Plain y) : ∀ z ∈ s.cs y, Plain z := by
  intro z hz
  simp only [Stt.cs, List.mem_cons] at hz
  rcases hz with rfl | rfl | rfl | rfl | rfl | rfl | hz
  iterate 5 exact .v _
  · exact hy
  · exact s.tab_pl z hz
def Stt.ow (s : Stt) (i : Nat) : Int := s.own.getD i 0
def Stt.ep (s : Stt) (i : Nat) : Int := s.epo.getD i 0
def Stt.g (s : Stt) (i : Nat) : Int × Int := (s.ow i, s.ep i)
theorem getD_at (l : List Int) {i : Nat} (h : i < l.length) : l[i] = l.getD i 0 := by rw [List.getD_eq_getElem?_getD, List.getElem?_eq_getElem h, Option.getD_some]
theorem Stt.Ok.atE {s : Stt} (h : s.Ok) {i : Nat} (hi : i < 64) : (flat s.epo)[i * 1]? = some (.v (.int .i64 (s.ep i))) := by
  rw [int_at s.epo i (by rw [h.e]; exact hi), Stt.ep, getD_at]
theorem Stt.Ok.tE {s : Stt} (h : s.Ok) {i : Nat} (hi : i < 64) : s.tab[64 + i * 1]? = some (.v (.int .i64 (s.ep i))) := by
  rw [Stt.tab, List.getElem?_append_right (by rw [h.fo]; omega), h.fo, Nat.add_sub_cancel_left]; exact h.atE hi
theorem Stt.Ok.takeO {s : Stt} (h : s.Ok) : (s.tab.drop 0).take 64 = flat s.own := by
  rw [List.drop_zero, Stt.tab, List.take_append_of_le_length (by rw [h.fo]; exact Nat.le_refl _), List.take_of_length_le (by rw [h.fo]; exact Nat.le_refl _)]
theorem Stt.Ok.takeT {s : Stt} (h : s.Ok) : s.tab.take 128 = s.tab := List.take_of_length_le (by rw [h.ft]; exact Nat.le_refl _)

def idB (n : Int) : Bool := decide (1 ≤ n) && decide (n ≤ 4294967296)
def masB (n o : Int) : Bool := decide (n = 0) || (idB n && decide (n ≠ o))
def epB (n : Int) : Bool := decide (0 ≤ n) && decide (n ≤ 281474976710656)
def kn1 (sid last : Int) (k : Kn) : Bool := idB k.id && decide (last < k.id) && decide (k.id ≠ sid) && masB k.master k.id && epB k.cfg
def knB (sid : Int) : Int → List Kn → Bool
  | _, [] => true
  | last, k :: r => kn1 sid last k && knB sid k.id r
def eposB (s : Stt) : Bool := decide (0 ≤ s.vote) && decide (0 ≤ s.cfg) && decide (s.vote ≤ s.cur) && decide (s.cfg ≤ s.cur) && decide (s.cur ≤ 281474976710656)
def slotB (o e : Int) : Bool := decide (0 ≤ o) && decide (o ≤ 4294967296) && epB e && (decide (o ≠ 0) || decide (e = 0))
def tabB (s : Stt) : Bool := (List.range 64).all fun i => slotB (s.ow i) (s.ep i)
def knowsB (s : Stt) (w : Int) : Bool := decide (w = s.id) || s.known.any fun k => decide (k.id = w)
def ownB (s : Stt) : Bool := !(ownL s.own).any fun w => !knowsB s w
def rightB (s : Stt) : Bool := knB s.id 0 s.known && (idB s.id && masB s.master s.id && eposB s && decide (s.known.length < 16) && tabB s && ownB s)
end Go.Proofs.YtcomjodfkcnjhaaGreatDoor

/- Walks: owners, what is right of parts. -/

namespace Go.Proofs.YtcomjodfkcnjhaaGreatDoor
open Go.Ax
open Cel (c)
theorem qN51 {p : Prop} (h : p := by (conv => lhs; whnf); all_goals exact rfl) : p := h
theorem qN52 {p : Prop} (h : p := by simp only [Nat.reduceAdd]; exact rfl) : p := h
theorem qN53 {p : Prop} (h : p := by first | omega | (simp only [za, zb, zc, zd]; omega)) : p := h
theorem qN54 {p : Prop} (h : p := by (conv => lhs; whnf); all_goals first | exact rfl | (simp; done) | (simp; omega)) : p := h
theorem qN55 {p : Prop} (h : p := by repeat' (first | exact Keep.refl _ | apply Keep.new | apply Keep.set | apply Keep.del | (first | omega | (simp only [za, zb, zc]; omega)))) : p := h
theorem qN56 {p : Prop} (h : p := by exact AStepD.lss rfl rfl rfl) : p := h
theorem qN57 {p : Prop} (h : p := by first | exact AStepD.eql rfl rfl rfl | exact AStepD.str_eql rfl rfl rfl | exact (AStepD.ptr_nil tok (.inl ⟨_, _, rfl⟩) rfl rfl rfl).1 rfl | exact (AStepD.nil_nil tok rfl rfl rfl rfl).1 rfl | exact (AStepD.bool_eq tok rfl rfl rfl rfl).1 rfl | exact (AStepD.ptr_same tok rfl rfl rfl rfl rfl).1 rfl | exact (AStepD.iface_nil tok rfl rfl rfl rfl).1 rfl | exact (AStepD.nilIface_nil tok rfl rfl rfl rfl).1 rfl) : p := h
theorem qN58 {p : Prop} (h : p := by exact AStepD.geq rfl rfl rfl) : p := h
theorem qN59 {p : Prop} (h : p := by exact AStepD.leq rfl rfl rfl) : p := h
theorem qN510 {p : Prop} (h : p := by intro h; first | (rw [h]; done) | (rw [h]; rfl) | (simp [h]; done) | (simp_all; done) | exact guard_true h) : p := h
theorem qN511 {p : Prop} (h : p := by first | exact AStepD.neq rfl rfl rfl | exact AStepD.str_neq rfl rfl rfl | exact (AStepD.ptr_nil tok (.inl ⟨_, _, rfl⟩) rfl rfl rfl).2 rfl | exact (AStepD.nil_nil tok rfl rfl rfl rfl).2 rfl | exact (AStepD.bool_eq tok rfl rfl rfl rfl).2 rfl | exact (AStepD.ptr_same tok rfl rfl rfl rfl rfl).2 rfl | exact (AStepD.iface_nil tok rfl rfl rfl rfl).2 rfl | exact (AStepD.nilIface_nil tok rfl rfl rfl rfl).2 rfl) : p := h
theorem qN512 {p : Prop} (h : p := by first | with_reducible assumption | exact Cel.one _ | exact flat_ones _ | exact ones_nil | (simp only [List.forall_mem_cons, List.not_mem_nil, false_implies, implies_true, and_true, one_v, one_ptr, one_ip, one_sl, one_slc, one_vec, one_map, one_func, one_iface, Value.oneCell', *]; done) | (simp [AV.one, Value.oneCell', *]; done)) : p := h
theorem qN513 {p : Prop} (h : p := by first | with_reducible assumption | exact rfl) : p := h
theorem qN514 {p : Prop} (h : p := by exact AStepD.max2 rfl rfl rfl rfl) : p := h
theorem qN515 {p : Prop} (h : p := by exact AStepD.gtr rfl rfl rfl) : p := h
theorem qN516 {p : Prop} (h : p := by first | exact rfl | exact (Int.toNat_of_nonneg (by omega)).symm) : p := h
theorem qN517 {p : Prop} (h : p := by first | omega | (simp; done) | (simp; omega) | (simp only [over, List.length_append, List.length_take, List.length_drop, *]; omega) | (simp_all; done) | (simp_all; omega)) : p := h
theorem qN518 {p : Prop} (h : p := by first | (simp only [Nat.zero_add, Nat.zero_mul, Nat.sub_zero, Nat.add_zero]; exact rfl) | exact rfl) : p := h
theorem qN519 {p : Prop} (h : p := by exact AStepD.assign' rfl qN51) : p := h
theorem qN520 {p : Prop} (h : p := by first | exact Nat.zero_add 0 | exact (show _ + 0 = _ from qN52) | exact (show _ + 0 = _ + 0 from rfl) | exact rfl) : p := h
theorem qN521 {p : Prop} (h : p := by first | with_reducible assumption | (simp (disch := (first | omega | (exact Lst.lab_ne (by with_reducible assumption) qN53) | (exact Lst.lab_new (by with_reducible assumption) qN53) | (refine id ?_; simp only [za, zb, zc, zd]; done) | (simp only [za, zb, zc, zd]; omega))) only [z1, z2, z3, z4, z5, z6, z7, z8, z9, ne_eq, *]; done) | (simp (disch := (first | omega | (exact Lst.lab_ne (by with_reducible assumption) qN53) | (exact Lst.lab_new (by with_reducible assumption) qN53) | (refine id ?_; simp only [za, zb, zc, zd]; done) | (simp only [za, zb, zc, zd]; omega))) only [z1, z2, z3, z4, z5, z6, z7, z8, z9, ne_eq, *]; exact rfl)) : p := h
theorem qN522 {p : Prop} (h : p := by exact AStepD.move' rfl qN51) : p := h
theorem qN523 {p : Prop} (h : p := by repeat' (first | exact SubT.nil _ | refine SubT.cons_eq qN54 ?_)) : p := h
theorem qN524 {p : Prop} (h : p := by exact SD.s rfl rfl rfl qN56) : p := h
theorem qN525 {p : Prop} (h : p := by exact SD.s rfl rfl rfl qN57) : p := h
theorem qN526 {p : Prop} (h : p := by exact SD.s rfl rfl rfl qN58) : p := h
theorem qN527 {p : Prop} (h : p := by exact (fun hb => by (repeat (first | apply UW.yes rfl (gpf hb) | apply UW.no)); exact UW.nil qN59)) : p := h
theorem qN528 {p : Prop} (h : p := by exact (fun _ hb => by (repeat (first | apply UW.yes rfl (gpf hb) | apply UW.no)); exact UW.nil qN59)) : p := h
theorem qN529 {p : Prop} (h : p := by first | exact AStepD.pick_true' rfl rfl qN51 | exact AStepD.pick_false' rfl rfl qN51 | exact AStepD.and rfl _ _ _ rfl rfl qN510 rfl | exact AStepD.and' rfl _ _ rfl rfl rfl | exact AStepD.or rfl _ _ _ rfl rfl rfl qN510 | exact AStepD.or' rfl _ _ rfl rfl rfl) : p := h
theorem qN530 {p : Prop} (h : p := by exact (fun hb => by (repeat (first | apply UW.yes rfl (gpf hb) | apply UW.no)); exact UW.nil qN511)) : p := h
theorem qN531 {p : Prop} (h : p := by exact (fun _ hb => by (repeat (first | apply UW.yes rfl (gpf hb) | apply UW.no)); exact UW.nil qN511)) : p := h
theorem qN532 {p : Prop} (h : p := by first | exact Nat.zero_add 1 | exact (show _ + 1 = _ from qN52) | exact (show _ + 1 = _ + 1 from rfl) | exact rfl) : p := h
theorem qN533 {p : Prop} (h : p := by first | exact Nat.zero_add 2 | exact (show _ + 2 = _ from qN52) | exact (show _ + 2 = _ + 2 from rfl) | exact rfl) : p := h
theorem qN534 {p : Prop} (h : p := by first | exact GW.yes rfl rfl rfl rfl rfl rfl rfl qN514 | exact GW.no rfl rfl rfl rfl rfl rfl rfl | exact GW.none rfl rfl rfl rfl rfl | exact GW.may rfl rfl rfl rfl rfl rfl (fun hb => by (repeat (first | apply UW.yes rfl (gpf hb) | apply UW.no)); exact UW.nil qN514) | exact GW.may2 rfl rfl rfl rfl rfl rfl (fun _ hb => by (repeat (first | apply UW.yes rfl (gpf hb) | apply UW.no)); exact UW.nil qN514)) : p := h
theorem qN535 {p : Prop} (h : p := by exact (fun hb => by (repeat (first | apply UW.yes rfl (gpf hb) | apply UW.no)); exact UW.nil qN515)) : p := h
theorem qN536 {p : Prop} (h : p := by exact (fun _ hb => by (repeat (first | apply UW.yes rfl (gpf hb) | apply UW.no)); exact UW.nil qN515)) : p := h
theorem qN537 {p : Prop} (h : p := by first | exact Nat.zero_add 64 | exact (show _ + 64 = _ from qN52) | exact (show _ + 64 = _ + 64 from rfl) | exact rfl) : p := h
theorem qN538 {p : Prop} (h : p := by first | exact AStepD.indexAddr_flat tok rfl rfl rfl rfl rfl rfl rfl (show _ = 1 from rfl) rfl qN516 qN517 | exact AStepD.indexAddr_vec' tok rfl rfl rfl rfl rfl rfl (show _ = 1 from rfl) qN516 qN517 | exact AStepD.indexAddr_sl' tok rfl rfl rfl rfl rfl rfl (show _ = 1 from rfl) qN516 qN517 qN518 | exact AStepD.indexAddr_arr' tok rfl rfl rfl rfl rfl rfl (show _ = 1 from rfl) qN516 qN517 qN518) : p := h
theorem qN539 {p : Prop} (h : p := by first | exact GW.yes rfl rfl rfl rfl rfl rfl rfl qN56 | exact GW.no rfl rfl rfl rfl rfl rfl rfl | exact GW.none rfl rfl rfl rfl rfl | exact GW.may rfl rfl rfl rfl rfl rfl (fun hb => by (repeat (first | apply UW.yes rfl (gpf hb) | apply UW.no)); exact UW.nil qN56) | exact GW.may2 rfl rfl rfl rfl rfl rfl (fun _ hb => by (repeat (first | apply UW.yes rfl (gpf hb) | apply UW.no)); exact UW.nil qN56)) : p := h
theorem qN540 {p : Prop} (h : p := by first | exact GW.yes rfl rfl rfl rfl rfl rfl rfl qN57 | exact GW.no rfl rfl rfl rfl rfl rfl rfl | exact GW.none rfl rfl rfl rfl rfl | exact GW.may rfl rfl rfl rfl rfl rfl (fun hb => by (repeat (first | apply UW.yes rfl (gpf hb) | apply UW.no)); exact UW.nil qN57) | exact GW.may2 rfl rfl rfl rfl rfl rfl (fun _ hb => by (repeat (first | apply UW.yes rfl (gpf hb) | apply UW.no)); exact UW.nil qN57)) : p := h
theorem qN541 {p : Prop} (h : p := by exact SD.s rfl rfl rfl qN519) : p := h
theorem qN542 {p : Prop} (h : p := by first | exact AStepD.fieldAddr' tok rfl rfl rfl rfl rfl rfl rfl qN520 | exact AStepD.fieldAddr_ip' tok rfl rfl rfl rfl rfl rfl rfl List.drop_zero) : p := h
theorem qN543 {p : Prop} (h : p := by exact SD.s rfl rfl rfl qN522) : p := h
theorem qN544 {p : Prop} (h : p := by exact (fun hb => by (repeat (first | apply UW.yes rfl (gpf hb) | apply UW.no)); exact UW.nil qN522)) : p := h
theorem qN545 {p : Prop} (h : p := by exact (fun _ hb => by (repeat (first | apply UW.yes rfl (gpf hb) | apply UW.no)); exact UW.nil qN522)) : p := h
theorem qN546 {p : Prop} (h : p := by first | exact GW.yes rfl rfl rfl rfl rfl rfl rfl qN59 | exact GW.no rfl rfl rfl rfl rfl rfl rfl | exact GW.none rfl rfl rfl rfl rfl | exact GW.may rfl rfl rfl rfl rfl rfl qN527 | exact GW.may2 rfl rfl rfl rfl rfl rfl qN528) : p := h
theorem qN547 {p : Prop} (h : p := by exact SD.s rfl rfl rfl qN529) : p := h
theorem qN548 {p : Prop} (h : p := by first | exact GW.yes rfl rfl rfl rfl rfl rfl rfl qN511 | exact GW.no rfl rfl rfl rfl rfl rfl rfl | exact GW.none rfl rfl rfl rfl rfl | exact GW.may rfl rfl rfl rfl rfl rfl qN530 | exact GW.may2 rfl rfl rfl rfl rfl rfl qN531) : p := h
theorem qN549 {p : Prop} (h : p := by exact (fun hb => by (repeat (first | apply UW.yes rfl (gpf hb) | apply UW.no)); exact UW.nil qN529)) : p := h
theorem qN550 {p : Prop} (h : p := by exact (fun _ hb => by (repeat (first | apply UW.yes rfl (gpf hb) | apply UW.no)); exact UW.nil qN529)) : p := h
theorem qN551 {p : Prop} (h : p := by first | exact AStepD.fieldAddr' tok rfl rfl rfl rfl rfl rfl rfl qN532 | exact AStepD.fieldAddr_ip' tok rfl rfl rfl rfl rfl rfl rfl (show List.drop 1 _ = _ from rfl)) : p := h
theorem qN552 {p : Prop} (h : p := by first | exact AStepD.load_one tok rfl rfl rfl rfl qN521 rfl qN513 | exact AStepD.load_one_ip tok rfl rfl rfl rfl rfl qN513) : p := h
theorem qN553 {p : Prop} (h : p := by first | exact AStepD.fieldAddr' tok rfl rfl rfl rfl rfl rfl rfl qN533 | exact AStepD.fieldAddr_ip' tok rfl rfl rfl rfl rfl rfl rfl (show List.drop 2 _ = _ from rfl)) : p := h
theorem qN554 {p : Prop} (h : p := by first | exact GW.yes rfl rfl rfl rfl rfl rfl rfl qN515 | exact GW.no rfl rfl rfl rfl rfl rfl rfl | exact GW.none rfl rfl rfl rfl rfl | exact GW.may rfl rfl rfl rfl rfl rfl qN535 | exact GW.may2 rfl rfl rfl rfl rfl rfl qN536) : p := h
theorem qN555 {p : Prop} (h : p := by first | exact AStepD.fieldAddr' tok rfl rfl rfl rfl rfl rfl rfl qN537 | exact AStepD.fieldAddr_ip' tok rfl rfl rfl rfl rfl rfl rfl (show List.drop 64 _ = _ from rfl)) : p := h
theorem qN556 {p : Prop} (h : p := by exact (fun hb => by (repeat (first | apply UW.yes rfl (gpf hb) | apply UW.no)); exact UW.nil qN538)) : p := h
theorem qN557 {p : Prop} (h : p := by exact (fun _ hb => by (repeat (first | apply UW.yes rfl (gpf hb) | apply UW.no)); exact UW.nil qN538)) : p := h
theorem qN558 {p : Prop} (h : p := by exact SD.s rfl rfl rfl qN542) : p := h
theorem qN559 {p : Prop} (h : p := by first | exact GW.yes rfl rfl rfl rfl rfl rfl rfl qN522 | exact GW.no rfl rfl rfl rfl rfl rfl rfl | exact GW.none rfl rfl rfl rfl rfl | exact GW.may rfl rfl rfl rfl rfl rfl qN544 | exact GW.may2 rfl rfl rfl rfl rfl rfl qN545) : p := h
theorem qN560 {p : Prop} (h : p := by first | exact GW.yes rfl rfl rfl rfl rfl rfl rfl qN529 | exact GW.no rfl rfl rfl rfl rfl rfl rfl | exact GW.none rfl rfl rfl rfl rfl | exact GW.may rfl rfl rfl rfl rfl rfl qN549 | exact GW.may2 rfl rfl rfl rfl rfl rfl qN550) : p := h
theorem qN561 {p : Prop} (h : p := by exact SD.s rfl rfl rfl qN552) : p := h
theorem qN562 {p : Prop} (h : p := by first | exact GW.yes rfl rfl rfl rfl rfl rfl rfl qN551 | exact GW.no rfl rfl rfl rfl rfl rfl rfl | exact GW.none rfl rfl rfl rfl rfl | exact GW.may rfl rfl rfl rfl rfl rfl (fun hb => by (repeat (first | apply UW.yes rfl (gpf hb) | apply UW.no)); exact UW.nil qN551) | exact GW.may2 rfl rfl rfl rfl rfl rfl (fun _ hb => by (repeat (first | apply UW.yes rfl (gpf hb) | apply UW.no)); exact UW.nil qN551)) : p := h
theorem qN563 {p : Prop} (h : p := by exact (fun hb => by (repeat (first | apply UW.yes rfl (gpf hb) | apply UW.no)); exact UW.nil qN552)) : p := h
theorem qN564 {p : Prop} (h : p := by exact (fun _ hb => by (repeat (first | apply UW.yes rfl (gpf hb) | apply UW.no)); exact UW.nil qN552)) : p := h
theorem qN565 {p : Prop} (h : p := by first | exact GW.yes rfl rfl rfl rfl rfl rfl rfl qN553 | exact GW.no rfl rfl rfl rfl rfl rfl rfl | exact GW.none rfl rfl rfl rfl rfl | exact GW.may rfl rfl rfl rfl rfl rfl (fun hb => by (repeat (first | apply UW.yes rfl (gpf hb) | apply UW.no)); exact UW.nil qN553) | exact GW.may2 rfl rfl rfl rfl rfl rfl (fun _ hb => by (repeat (first | apply UW.yes rfl (gpf hb) | apply UW.no)); exact UW.nil qN553)) : p := h
theorem qN566 {p : Prop} (h : p := by exact (fun hb => by (repeat (first | apply UW.yes rfl (gpf hb) | apply UW.no)); exact UW.nil qN542)) : p := h
theorem qN567 {p : Prop} (h : p := by exact (fun _ hb => by (repeat (first | apply UW.yes rfl (gpf hb) | apply UW.no)); exact UW.nil qN542)) : p := h
theorem qN568 {p : Prop} (h : p := by exact (fun hb => by (repeat (first | apply UW.yes rfl (gpf hb) | apply UW.no)); exact UW.nil qN555)) : p := h
theorem qN569 {p : Prop} (h : p := by exact (fun _ hb => by (repeat (first | apply UW.yes rfl (gpf hb) | apply UW.no)); exact UW.nil qN555)) : p := h
theorem qN570 {p : Prop} (h : p := by first | exact GW.yes rfl rfl rfl rfl rfl rfl rfl qN538 | exact GW.no rfl rfl rfl rfl rfl rfl rfl | exact GW.none rfl rfl rfl rfl rfl | exact GW.may rfl rfl rfl rfl rfl rfl qN556 | exact GW.may2 rfl rfl rfl rfl rfl rfl qN557) : p := h
theorem qN571 {p : Prop} (h : p := by first | exact GW.yes rfl rfl rfl rfl rfl rfl rfl qN552 | exact GW.no rfl rfl rfl rfl rfl rfl rfl | exact GW.none rfl rfl rfl rfl rfl | exact GW.may rfl rfl rfl rfl rfl rfl qN563 | exact GW.may2 rfl rfl rfl rfl rfl rfl qN564) : p := h
theorem qN572 {p : Prop} (h : p := by first | exact GW.yes rfl rfl rfl rfl rfl rfl rfl qN542 | exact GW.no rfl rfl rfl rfl rfl rfl rfl | exact GW.none rfl rfl rfl rfl rfl | exact GW.may rfl rfl rfl rfl rfl rfl qN566 | exact GW.may2 rfl rfl rfl rfl rfl rfl qN567) : p := h
theorem qN573 {p : Prop} (h : p := by first | exact GW.yes rfl rfl rfl rfl rfl rfl rfl qN555 | exact GW.no rfl rfl rfl rfl rfl rfl rfl | exact GW.none rfl rfl rfl rfl rfl | exact GW.may rfl rfl rfl rfl rfl rfl qN568 | exact GW.may2 rfl rfl rfl rfl rfl rfl qN569) : p := h
set_option linter.unusedSimpArgs false
set_option linter.unusedVariables false
set_option maxRecDepth 20000
open Cel (c)

theorem owners_calls (H : AHeap) (s : Stt) (h : s.Ok) : ACalls Tryz.prog 25 [.agg s.tab] H (fun r H' => r = vecA (ownL s.own) ∧ H' = H) := by
  refine ACalls.quiet_keep ?_ (vecA_plain _)
  have hft := h.ft
  have hle := Lib.compact_length_le (sortI s.own)
  have hsl := sortI_len s.own
  rw [hsl, h.o] at hle
  refine ACalls.of_body tok Tryz.func25 rfl Tryz.ntmps25 (Nat.le_of_ble_eq_true rfl) (fun base => ?_)
  refine rg fun K hK => ?_
  refine st (by exact SD.s rfl rfl rfl (by exact AStepD.box (cs := s.tab) rfl rfl s.tab_one)) <| st qN541 <| nt (hK _ _ ?_)
  clear hK K
  refine AW.seq_region (fun K hK => ?_)
  refine AL.step rfl rfl rfl qN542 ?_
  refine AL.step rfl rfl rfl (by exact AStepD.val (AStepD.slice_arr' (l := 0) (h := 64) tok rfl rfl rfl rfl rfl (show _ = 1 from rfl) qN521 rfl rfl rfl rfl (by rw [hft]; decide) (by decide) (Nat.zero_le _) (Nat.le_refl _) (by decide)) (y := .sl H.next 0 64 1) rfl) ?_
  refine AL.call rfl rfl rfl (AStep.callf rfl en61 (clone_calls _ H.next s.own (flat s.epo) qN521 h.o)) ?_
  rintro _ H2 ⟨D, rfl, hD, hDn, hg, hk⟩
  refine AL.step rfl rfl rfl qN519 ?_
  refine AL.nil_then (hK _ _ ?_); clear hK K
  have h64 : s.own.length = 64 := h.o
  rw [show AV.sl D 0 64 1 = AV.sl D 0 s.own.length 1 from by rw [h64]]
  refine rg fun K hK => ?_
  refine st qN543 <| st (by exact SD.s rfl rfl rfl (by exact AStepD.callf rfl en28 rfl (sort_calls _ s.own D hg (by omega)))) <| nt (hK _ _ ?_)
  clear hK K
  have hcmp := compact_calls (H2.set D (.cells 3 (flat (sortI s.own)))) (sortI s.own) D (AHeap.get_set_same _ _ _) (by omega)
  rw [hsl] at hcmp
  refine rg fun K hK => ?_
  refine st qN543 <| st (by exact SD.s rfl rfl rfl (by exact AStepD.callf rfl en63 rfl hcmp)) <| ?_
  refine AL.call rfl rfl rfl (AStep.callf rfl en62 (delz_calls _ D (Lib.compact (sortI s.own)).length _ (AHeap.get_set_same _ _ _) (by rw [List.length_append]; omega) (by rw [List.length_append, List.length_replicate]; omega))) ?_; rw [List.take_left]; rintro _ H3 ⟨cs, rfl, hc1, hc2, hc3, hc4, hc5⟩
  refine st qN541 <| nt (hK _ _ ?_)
  clear hK K
  refine AW.ret (RetQ.frz (.inr rfl) (retA_tmp rfl qN51 retA_nil) hc1 (.sl (by rw [Nat.mul_one, Nat.zero_add]; exact hc3)) ⟨?_, ?_⟩)
  · rw [List.drop_zero, Nat.mul_one, hc2]; rfl
  · refine ⟨?_, fun q hq => ?_⟩
    · simp only [zb, hc4, za]; exact Nat.le_trans (Nat.le_succ _) hk.1
    · have hD' : H.next + 1 ≤ D := hD
      have hqD : q ≠ D := by omega
      rw [AHeap.get_del_ne _ hqD, hc5 q hqD, AHeap.get_set_ne _ _ hqD, AHeap.get_set_ne _ _ hqD, hk.2 q (by simp only [zc]; omega), AHeap.get_new_ne _ _ (by omega)]

def bitsF (f : Nat → Bool) : Nat → BitVec 64
  | 0 => 0#64
  | n + 1 => if f n then bitsF f n ||| (1#64 <<< n) else bitsF f n
theorem bitsF_get (f : Nat → Bool) : ∀ (n i : Nat), n ≤ 64 → (bitsF f n).getLsbD i = (decide (i < n) && f i)
  | 0, i, _ => by simp [bitsF]
  | n + 1, i, h => by
    have ih := bitsF_get f n i (by omega)
    rw [bitsF]
    by_cases hi : i = n
    · subst hi
      cases hf : f i <;> simp [hf, ih]
      omega
    · have e : decide (i < n + 1) = decide (i < n) := decide_eq_decide.2 (by omega)
      rw [e]
      cases hf : f n
      · simpa using ih
      · simp only [if_true, BitVec.getLsbD_or, ih, BitVec.getLsbD_shiftLeft, BitVec.getLsbD_one]
        have : (decide (i < 64) && !decide (i < n) && (decide (0 < 64) && decide (i - n = 0))) = false := by
          rw [← Bool.not_eq_true]
          simp only [Bool.and_eq_true, decide_eq_true_eq, Bool.not_eq_true', decide_eq_false_iff_not]
          omega
        rw [this, Bool.or_false]
def ofW (s : Stt) (w : Int) : BitVec 64 := bitsF (fun i => decide (s.ow i = w)) 64
theorem of_calls (H : AHeap) (s : Stt) (h : s.Ok) (w : Int) : ACalls Tryz.prog 26 [.agg s.tab, .v (.int .i64 w)] H (fun r H' => r = u64A (ofW s w) ∧ H' = H) := by
  refine ACalls.quiet_keep ?_ (.v _)
  refine ACalls.of_body tok Tryz.func26 rfl Tryz.ntmps26 (Nat.le_of_ble_eq_true rfl) (fun base => ?_)
  refine rg fun K hK => ?_
  refine st (by exact SD.s rfl rfl rfl (by exact AStepD.box (cs := s.tab) rfl rfl s.tab_one)) <| st qN541 <| nt (hK _ _ ?_)
  clear hK K
  refine rg fun K hK => ?_
  refine st qN541 <| nt (hK _ _ ?_)
  clear hK K
  refine AW.seq_k (fun K1 hK1 => ?_)
  refine rg fun K hK => ?_
  refine st qN558 <| st (by exact SD.s rfl rfl rfl (by exact AStepD.load_agg tok rfl rfl rfl qN521 rfl (show _ = 64 from rfl) (by have := h.ft; omega) h.takeO)) <| st qN543 <| nt (hK _ _ ?_)
  clear hK K
  refine AW.block ?_
  refine AW.loop_at (ι := Nat) (fun i => [(10, .v (.int .i64 (i : Nat))), (9, .agg (flat s.own)), (5, u64A (bitsF (fun i => decide (s.ow i = w)) i)), (1, .v (.int .i64 w))])
    (fun i H' => i ≤ 64 ∧ Keep H H') (fun i => 64 - i) 0 qN523 ⟨by omega, qN55⟩ ?_
  rintro i H2 ⟨hi, hk⟩
  refine rg fun K hK => ?_
  refine st qN524 <| nt (hK _ _ ?_)
  clear hK K
  refine AW.seq_k (fun K2 hK2 => ?_)
  refine AW.cond _ rfl (fun hc => ?_) (fun hc => ?_)
  · (try simp only [Bool.or_eq_true, Bool.and_eq_true, Bool.or_eq_false_iff, Bool.and_eq_false_iff, Bool.not_eq_true', Bool.not_eq_false', decide_eq_true_eq, decide_eq_false_iff_not, Int.not_lt, Int.not_le] at hc)
    have hil : i < 64 := by omega
    refine AW.skip ?_
    refine hK2 _ _ ?_; try clear hK2 K2
    refine AW.seq_k (fun K3 hK3 => ?_)
    refine AW.block ?_
    refine rg fun K hK => ?_
    refine st qN543 <| st (by exact SD.s rfl rfl rfl (by exact AStepD.index_ints tok rfl rfl rfl rfl rfl rfl rfl (show _ = 1 from rfl) h.o.symm rfl (by rw [h.o]; exact hil))) <| st qN541 <| st qN541 <| nt (hK _ _ ?_)
    clear hK K
    refine rg fun K hK => ?_
    refine st qN543 <| st qN543 <| st qN525 <| nt (hK _ _ ?_)
    clear hK K
    refine AW.cond _ rfl (fun hc => ?_) (fun hc => ?_)
    · refine AW.region ?_
      refine st qN543 <| st qN543 <| st (by exact SD.s rfl rfl rfl (by first | exact AStepD.bv_shl (a := 1#64) rfl rfl rfl | exact AStepD.shl rfl rfl rfl (by omega) rfl)) <| st (by exact SD.s rfl rfl rfl (by first | exact AStepD.bv_or rfl rfl rfl | exact AStepD.bits rfl (by simp) rfl rfl rfl)) <| st qN541 <| AL.nil ?_
      refine hK3 _ _ ?_; try clear hK3 K3
      refine AW.region ?_
      refine st (by exact SD.s rfl rfl rfl (by first | exact AStepD.add rfl rfl rfl (by first | exact IntWalk.i64_in _ (by omega) | exact IntWalk.i64_in _ (by simp only [Bool.or_eq_true, Bool.and_eq_true, Bool.or_eq_false_iff, Bool.and_eq_false_iff, Bool.not_eq_true', Bool.not_eq_false', decide_eq_true_eq, decide_eq_false_iff_not, Int.not_lt, Int.not_le, beq_iff_eq] at *; omega) | exact rfl) | exact AStepD.str_add rfl rfl rfl (by omega))) <| st qN543 <| AL.nil ?_
      exact ⟨i + 1, by omega, by rw [bitsF, if_pos (show decide (s.ow i = w) = true from hc)]; exact qN523, hil, hk⟩
    · refine AW.skip ?_
      refine hK3 _ _ ?_; try clear hK3 K3
      refine AW.region ?_
      refine st (by exact SD.s rfl rfl rfl (by first | exact AStepD.add rfl rfl rfl (by first | exact IntWalk.i64_in _ (by omega) | exact IntWalk.i64_in _ (by simp only [Bool.or_eq_true, Bool.and_eq_true, Bool.or_eq_false_iff, Bool.and_eq_false_iff, Bool.not_eq_true', Bool.not_eq_false', decide_eq_true_eq, decide_eq_false_iff_not, Int.not_lt, Int.not_le, beq_iff_eq] at *; omega) | exact rfl) | exact AStepD.str_add rfl rfl rfl (by omega))) <| st qN543 <| AL.nil ?_
      exact ⟨i + 1, by omega, by rw [bitsF, if_neg (by rw [show decide (s.ow i = w) = false from hc]; decide)]; exact qN523, hil, hk⟩
  · (try simp only [Bool.or_eq_true, Bool.and_eq_true, Bool.or_eq_false_iff, Bool.and_eq_false_iff, Bool.not_eq_true', Bool.not_eq_false', decide_eq_true_eq, decide_eq_false_iff_not, Int.not_lt, Int.not_le] at hc)
    obtain rfl : i = 64 := by omega
    refine AW.exit ?_
    refine hK1 _ _ ?_; try clear hK1 K1
    refine rg fun K hK => ?_
    refine st qN543 <| st qN541 <| nt (hK _ _ ?_)
    clear hK K
    exact AW.ret (RetQ.mk (.inr rfl) (retA_tmp rfl qN51 retA_nil) ⟨rfl, hk⟩)

theorem id_calls (H : AHeap) (n : Int) : ACalls Tryz.prog 47 [.v (.int .i64 n)] H (fun r H' => r = .v (.bool (idB n)) ∧ H' = H) := by
  refine ACalls.of_body tok Tryz.func47 rfl Tryz.ntmps47 (Nat.le_of_ble_eq_true rfl) (fun base => ?_)
  refine rg fun K hK => ?_
  refine st qN541 <| nt (hK _ _ ?_)
  clear hK K
  refine rg fun K hK => ?_
  refine st qN543 <| st qN526 <| st qN543 <| st (GW.p (l := [0]) qN559) <| st (GW.p (l := [6]) qN546) <| st qN547 <| st qN541 <| nt (hK _ _ ?_)
  clear hK K
  exact AW.ret (RetQ.mk (.inr rfl) (retA_tmp rfl qN51 retA_nil) ⟨rfl, rfl⟩)
theorem master_calls (H : AHeap) (n o : Int) : ACalls Tryz.prog 48 [.v (.int .i64 n), .v (.int .i64 o)] H (fun r H' => r = .v (.bool (masB n o)) ∧ H' = H) := by
  refine ACalls.of_body tok Tryz.func48 rfl Tryz.ntmps48 (Nat.le_of_ble_eq_true rfl) (fun base => ?_)
  refine rg fun K hK => ?_
  refine st qN541 <| nt (hK _ _ ?_)
  clear hK K
  refine rg fun K hK => ?_
  refine st qN543 <| st qN525 <| st qN543 <| st (GW.p (l := [0]) qN559) <| st (GW.p (l := [8]) (by first | exact GW.yes rfl rfl rfl rfl rfl rfl rfl (by exact AStepD.callf rfl en47 rfl (id_calls _ n)) | exact GW.no rfl rfl rfl rfl rfl rfl rfl | exact GW.none rfl rfl rfl rfl rfl | exact GW.may rfl rfl rfl rfl rfl rfl (fun hb => by (repeat (first | apply UW.yes rfl (gpf hb) | apply UW.no)); exact UW.nil (by exact AStepD.callf rfl en47 rfl (id_calls _ n))) | exact GW.may2 rfl rfl rfl rfl rfl rfl (fun _ hb => by (repeat (first | apply UW.yes rfl (gpf hb) | apply UW.no)); exact UW.nil (by exact AStepD.callf rfl en47 rfl (id_calls _ n))))) <| st (GW.p (l := [9]) qN559) <| st (GW.p (l := [0]) qN559) <| st (GW.p (l := [1]) qN559) <| st (GW.p (l := [11, 12]) qN548) <| st (GW.p (l := [10, 13]) qN560) <| st qN547 <| st qN541 <| nt (hK _ _ ?_)
  clear hK K
  exact AW.ret (RetQ.mk (.inr rfl) (retA_tmp rfl qN51 retA_nil) ⟨rfl, rfl⟩)
theorem epochs_calls (H : AHeap) (s : Stt) : ACalls Tryz.prog 54 [.agg [.v (.int .i64 s.cur), .v (.int .i64 s.vote), .v (.int .i64 s.cfg)]] H (fun r H' => r = .v (.bool (eposB s)) ∧ H' = H) := by
  refine ACalls.quiet_keep ?_ (.v _)
  refine ACalls.of_body tok Tryz.func54 rfl Tryz.ntmps54 (Nat.le_of_ble_eq_true rfl) (fun base => ?_)
  refine rg fun K hK => ?_
  refine st (by exact SD.s rfl rfl rfl (by first | exact AStepD.box1 rfl qN51 (by first | exact rfl | with_reducible assumption | exact Lst.one (by assumption)) | exact AStepD.box rfl qN51 qN512)) <| st qN541 <| nt (hK _ _ ?_)
  clear hK K
  refine rg fun K hK => ?_
  refine st (by exact SD.s rfl rfl rfl qN551) <| st qN561 <| st (by exact SD.s rfl rfl rfl qN553) <| st qN561 <| st (by exact SD.s rfl rfl rfl (by exact AStepD.min2 rfl rfl rfl rfl)) <| st qN526 <| st qN543 <| st (GW.p (l := [1]) qN562) <| st (GW.p (l := [10]) qN571) <| st (GW.p (l := [1]) qN565) <| st (GW.p (l := [12]) qN571) <| st (GW.p (l := [11, 13]) qN534) <| st (GW.p (l := [1]) qN572) <| st (GW.p (l := [15]) qN571) <| st (GW.p (l := [14, 16]) qN546) <| st qN547 <| st qN543 <| st (GW.p (l := [1]) qN572) <| st (GW.p (l := [20]) qN571) <| st (GW.p (l := [21]) qN546) <| st qN547 <| st qN541 <| nt (hK _ _ ?_)
  clear hK K
  refine AW.ret (RetQ.mk (.inr rfl) (retA_tmp rfl qN51 retA_nil) ⟨?_, qN55⟩)
  refine congrArg (fun b => AV.v (.bool b)) ?_
  rw [eposB]
  split <;> split <;> (rw [Bool.eq_iff_iff]; simp only [Bool.and_eq_true, decide_eq_true_eq]; omega)
theorem slot_not (o e : Int) : (decide (o < 0) || decide (4294967296 < o) || decide (e < 0) || decide (281474976710656 < e) || decide (o = 0) && decide (e ≠ 0)) = !slotB o e := by
  rw [Bool.eq_iff_iff]
  simp only [slotB, epB, Bool.not_eq_true', ← Bool.not_eq_true, Bool.and_eq_true, Bool.or_eq_true, decide_eq_true_eq]
  omega
theorem table_calls (H : AHeap) (s : Stt) (h : s.Ok) : ACalls Tryz.prog 55 [.agg s.tab] H (fun r H' => r = .v (.bool (tabB s)) ∧ H' = H) := by
  refine ACalls.quiet_keep ?_ (.v _)
  refine ACalls.of_body tok Tryz.func55 rfl Tryz.ntmps55 (Nat.le_of_ble_eq_true rfl) (fun base => ?_)
  refine rg fun K hK => ?_
  refine st (by exact SD.s rfl rfl rfl (by exact AStepD.box (cs := s.tab) rfl rfl s.tab_one)) <| st qN541 <| nt (hK _ _ ?_)
  clear hK K
  refine AW.seq_k (fun K1 hK1 => ?_)
  refine rg fun K hK => ?_
  refine st qN558 <| st (by exact SD.s rfl rfl rfl (by exact AStepD.load_agg tok rfl rfl rfl qN521 rfl (show _ = 64 from rfl) (by have := h.ft; omega) h.takeO)) <| st qN543 <| nt (hK _ _ ?_)
  clear hK K
  refine AW.block ?_
  refine AW.loop_at (ι := Nat) (fun i => [(7, .v (.int .i64 (i : Nat))), (6, .agg (flat s.own)), (1, .ptr H.next 0)])
    (fun i H' => i ≤ 64 ∧ H'.get H.next = some (.cells 32 s.tab) ∧ (∀ k, k < i → slotB (s.ow k) (s.ep k) = true) ∧ Keep H H') (fun i => 64 - i) 0 qN523 ⟨by omega, qN521, fun _ h => absurd h (by omega), qN55⟩ ?_
  rintro i H2 ⟨hi, g0, hal, hk⟩
  refine rg fun K hK => ?_
  refine st qN524 <| nt (hK _ _ ?_)
  clear hK K
  refine AW.seq_k (fun K2 hK2 => ?_)
  refine AW.cond _ rfl (fun hc => ?_) (fun hc => ?_)
  · (try simp only [Bool.or_eq_true, Bool.and_eq_true, Bool.or_eq_false_iff, Bool.and_eq_false_iff, Bool.not_eq_true', Bool.not_eq_false', decide_eq_true_eq, decide_eq_false_iff_not, Int.not_lt, Int.not_le] at hc)
    have hil : i < 64 := by omega
    refine AW.skip ?_
    refine hK2 _ _ ?_; try clear hK2 K2
    refine AW.seq_k (fun K3 hK3 => ?_)
    refine AW.block ?_
    refine rg fun K hK => ?_
    refine st qN543 <| st (by exact SD.s rfl rfl rfl (by exact AStepD.index_ints tok rfl rfl rfl rfl rfl rfl rfl (show _ = 1 from rfl) h.o.symm rfl (by rw [h.o]; exact hil))) <| st qN541 <| st qN541 <| nt (hK _ _ ?_)
    clear hK K
    have hE := h.tE hil
    refine rg fun K hK => ?_
    refine st qN543 <| st qN524 <| st qN543 <| st (GW.p (l := [4]) qN559) <| st (GW.p (l := [14]) qN554) <| st qN547 <| st qN543 <| st (GW.p (l := [3]) qN559) <| st (GW.p (l := [1]) qN573) <| st (GW.p (l := [19, 18]) qN570) <| st (GW.p (l := [20]) (by first | exact GW.yes rfl rfl rfl rfl rfl rfl rfl (by exact AStepD.load_one tok rfl rfl rfl rfl g0 rfl hE) | exact GW.no rfl rfl rfl rfl rfl rfl rfl | exact GW.none rfl rfl rfl rfl rfl | exact GW.may rfl rfl rfl rfl rfl rfl (fun hb => by (repeat (first | apply UW.yes rfl (gpf hb) | apply UW.no)); exact UW.nil (by exact AStepD.load_one tok rfl rfl rfl rfl g0 rfl hE)) | exact GW.may2 rfl rfl rfl rfl rfl rfl (fun _ hb => by (repeat (first | apply UW.yes rfl (gpf hb) | apply UW.no)); exact UW.nil (by exact AStepD.load_one tok rfl rfl rfl rfl g0 rfl hE)))) <| st (GW.p (l := [21]) qN539) <| st qN547 <| st qN543 <| st (GW.p (l := [3]) qN559) <| st (GW.p (l := [1]) qN573) <| st (GW.p (l := [26, 25]) qN570) <| st (GW.p (l := [27]) (by first | exact GW.yes rfl rfl rfl rfl rfl rfl rfl (by exact AStepD.load_one tok rfl rfl rfl rfl g0 rfl hE) | exact GW.no rfl rfl rfl rfl rfl rfl rfl | exact GW.none rfl rfl rfl rfl rfl | exact GW.may rfl rfl rfl rfl rfl rfl (fun hb => by (repeat (first | apply UW.yes rfl (gpf hb) | apply UW.no)); exact UW.nil (by exact AStepD.load_one tok rfl rfl rfl rfl g0 rfl hE)) | exact GW.may2 rfl rfl rfl rfl rfl rfl (fun _ hb => by (repeat (first | apply UW.yes rfl (gpf hb) | apply UW.no)); exact UW.nil (by exact AStepD.load_one tok rfl rfl rfl rfl g0 rfl hE)))) <| st (GW.p (l := [28]) qN554) <| st qN547 <| st qN543 <| st (GW.p (l := [4]) qN559) <| st (GW.p (l := [32]) qN540) <| st (GW.p (l := [33]) qN559) <| st (GW.p (l := [3]) qN559) <| st (GW.p (l := [1]) qN573) <| st (GW.p (l := [36, 35]) qN570) <| st (GW.p (l := [37]) (by first | exact GW.yes rfl rfl rfl rfl rfl rfl rfl (by exact AStepD.load_one tok rfl rfl rfl rfl g0 rfl hE) | exact GW.no rfl rfl rfl rfl rfl rfl rfl | exact GW.none rfl rfl rfl rfl rfl | exact GW.may rfl rfl rfl rfl rfl rfl (fun hb => by (repeat (first | apply UW.yes rfl (gpf hb) | apply UW.no)); exact UW.nil (by exact AStepD.load_one tok rfl rfl rfl rfl g0 rfl hE)) | exact GW.may2 rfl rfl rfl rfl rfl rfl (fun _ hb => by (repeat (first | apply UW.yes rfl (gpf hb) | apply UW.no)); exact UW.nil (by exact AStepD.load_one tok rfl rfl rfl rfl g0 rfl hE)))) <| st (GW.p (l := [38]) qN548) <| st (GW.p (l := [34, 39]) qN560) <| st qN547 <| nt (hK _ _ ?_)
    clear hK K
    refine AW.cond _ rfl (fun hc => ?_) (fun hc => ?_)
    · have hc : (!slotB (s.ow i) (s.ep i)) = true := (slot_not _ _).symm.trans hc
      refine rg fun K hK => ?_
      refine st qN541 <| nt (hK _ _ ?_)
      clear hK K
      refine AW.ret (RetQ.mk (.inr rfl) (retA_tmp rfl qN51 retA_nil) ⟨?_, hk⟩)
      rw [show tabB s = false from List.all_eq_false.2 ⟨i, List.mem_range.2 hil, by simpa using hc⟩]; rfl
    · have hc : (!slotB (s.ow i) (s.ep i)) = false := (slot_not _ _).symm.trans hc
      refine AW.skip ?_
      refine hK3 _ _ ?_; try clear hK3 K3
      refine AW.region ?_
      refine st (by exact SD.s rfl rfl rfl (by first | exact AStepD.add rfl rfl rfl (by first | exact IntWalk.i64_in _ (by omega) | exact IntWalk.i64_in _ (by simp only [Bool.or_eq_true, Bool.and_eq_true, Bool.or_eq_false_iff, Bool.and_eq_false_iff, Bool.not_eq_true', Bool.not_eq_false', decide_eq_true_eq, decide_eq_false_iff_not, Int.not_lt, Int.not_le, beq_iff_eq] at *; omega) | exact rfl) | exact AStepD.str_add rfl rfl rfl (by omega))) <| st qN543 <| AL.nil ?_
      refine ⟨i + 1, by omega, qN523, hil, g0, fun k hk => ?_, hk⟩
      rcases Nat.lt_succ_iff_lt_or_eq.1 hk with h | rfl
      · exact hal k h
      · simpa using hc
  · (try simp only [Bool.or_eq_true, Bool.and_eq_true, Bool.or_eq_false_iff, Bool.and_eq_false_iff, Bool.not_eq_true', Bool.not_eq_false', decide_eq_true_eq, decide_eq_false_iff_not, Int.not_lt, Int.not_le] at hc)
    obtain rfl : i = 64 := by omega
    refine AW.exit ?_
    refine hK1 _ _ ?_; try clear hK1 K1
    refine rg fun K hK => ?_
    refine st qN541 <| nt (hK _ _ ?_)
    clear hK K
    refine AW.ret (RetQ.mk (.inr rfl) (retA_tmp rfl qN51 retA_nil) ⟨?_, hk⟩)
    rw [show tabB s = true from List.all_eq_true.2 fun k hk => hal k (List.mem_range.1 hk)]; rfl
end Go.Proofs.YtcomjodfkcnjhaaGreatDoor

/- The walk of Right. -/

namespace Go.Proofs.YtcomjodfkcnjhaaGreatDoor
open Go.Ax
open Cel (c)
theorem qN61 {p : Prop} (h : p := by first | exact IsSl.vec | exact IsSl.sl | exact IsSl.slc | exact IsSl.nil | with_reducible assumption) : p := h
theorem qN62 {p : Prop} (h : p := by first | exact AStepD.indexAddr_flat tok rfl rfl rfl rfl rfl rfl rfl (show _ = 3 from rfl) rfl qN516 qN517 | exact AStepD.indexAddr_vec' tok rfl rfl rfl rfl rfl rfl (show _ = 3 from rfl) qN516 qN517 | exact AStepD.indexAddr_sl' tok rfl rfl rfl rfl rfl rfl (show _ = 3 from rfl) qN516 qN517 qN518 | exact AStepD.indexAddr_arr' tok rfl rfl rfl rfl rfl rfl (show _ = 3 from rfl) qN516 qN517 qN518) : p := h
theorem qN63 {p : Prop} (h : p := by first | exact Nat.le_of_ble_eq_true rfl | (simp; done) | (simp; omega) | (simp_all; omega)) : p := h
theorem qN64 {p : Prop} (h : p := by first | with_reducible assumption | (simp only [List.take_succ_cons, List.take_zero, List.drop_succ_cons, List.drop_zero]; exact rfl) | exact rfl) : p := h
theorem qN65 {p : Prop} (h : p := by first | exact rfl | with_reducible assumption | exact Lst.one (by assumption)) : p := h
theorem qN66 {p : Prop} (h : p := by first | exact Nat.zero_add 5 | exact (show _ + 5 = _ from qN52) | exact (show _ + 5 = _ + 5 from rfl) | exact rfl) : p := h
theorem qN67 {p : Prop} (h : p := by (try simp only [za, zb, zc, zd, ne_eq]); omega) : p := h
theorem qN68 {p : Prop} (h : p := by exact AStepD.alloc tok rfl rfl) : p := h
theorem qN69 {p : Prop} (h : p := by first | exact one_cells (by with_reducible assumption) | exact qN51) : p := h
theorem qN610 {p : Prop} (h : p := by first | ((with_reducible refine over_all ?_); exact rfl) | (simp only [over, List.take_succ_cons, List.take_zero, List.drop_succ_cons, List.drop_zero, List.length_cons, List.length_nil, List.nil_append, List.cons_append, Nat.reduceAdd, Nat.zero_add, List.drop_nil, List.append_nil]; exact rfl) | conv => lhs; whnf) : p := h
theorem qN611 {p : Prop} (h : p := by exact (fun hb => by (repeat (first | apply UW.yes rfl (gpf hb) | apply UW.no)); exact UW.nil qN551)) : p := h
theorem qN612 {p : Prop} (h : p := by exact (fun _ hb => by (repeat (first | apply UW.yes rfl (gpf hb) | apply UW.no)); exact UW.nil qN551)) : p := h
theorem qN613 {p : Prop} (h : p := by exact (fun hb => by (repeat (first | apply UW.yes rfl (gpf hb) | apply UW.no)); exact UW.nil qN553)) : p := h
theorem qN614 {p : Prop} (h : p := by exact (fun _ hb => by (repeat (first | apply UW.yes rfl (gpf hb) | apply UW.no)); exact UW.nil qN553)) : p := h
theorem qN615 {p : Prop} (h : p := by exact (fun hb => by (repeat (first | apply UW.yes rfl (gpf hb) | apply UW.no)); exact UW.nil qN56)) : p := h
theorem qN616 {p : Prop} (h : p := by exact (fun _ hb => by (repeat (first | apply UW.yes rfl (gpf hb) | apply UW.no)); exact UW.nil qN56)) : p := h
theorem qN617 {p : Prop} (h : p := by repeat' (first | exact Keep.refl _ | with_reducible assumption | apply Keep.new | apply Keep.set | apply Keep.del | (first | omega | (simp only [za, zb, zc]; omega)))) : p := h
theorem qN618 {p : Prop} (h : p := by first | exact Nat.zero_add 6 | exact (show _ + 6 = _ from qN52) | exact (show _ + 6 = _ + 6 from rfl) | exact rfl) : p := h
theorem qN619 {p : Prop} (h : p := by first | exact AStepD.len_str tok rfl rfl rfl rfl | exact AStepD.len_sl tok rfl qN51 qN61 rfl rfl | exact AStepD.len_arr tok rfl rfl rfl) : p := h
theorem qN620 {p : Prop} (h : p := by exact SD.s rfl rfl rfl qN62) : p := h
theorem qN621 {p : Prop} (h : p := by first | exact AStepD.load_cel_ip tok rfl rfl rfl rfl (show _ = 3 from rfl) rfl | exact AStepD.load_agg tok rfl rfl rfl qN521 rfl (show _ = 3 from rfl) qN63 qN64 | exact AStepD.load_agg_ip tok rfl rfl rfl rfl (show _ = 3 from rfl) qN63 qN64) : p := h
theorem qN622 {p : Prop} (h : p := by first | exact AStepD.box1 rfl qN51 qN65 | exact AStepD.box rfl qN51 qN512) : p := h
theorem qN623 {p : Prop} (h : p := by first | exact AStepD.fieldAddr' tok rfl rfl rfl rfl rfl rfl rfl qN66 | exact AStepD.fieldAddr_ip' tok rfl rfl rfl rfl rfl rfl rfl (show List.drop 5 _ = _ from rfl)) : p := h
theorem qN624 {p : Prop} (h : p := by exact SD.s rfl rfl rfl qN68) : p := h
theorem qN625 {p : Prop} (h : p := by exact AStepD.store' tok rfl rfl qN521 qN51 qN69 qN512 rfl qN51 rfl qN63 qN610) : p := h
theorem qN626 {p : Prop} (h : p := by first | exact GW.yes rfl rfl rfl rfl rfl rfl rfl qN551 | exact GW.no rfl rfl rfl rfl rfl rfl rfl | exact GW.none rfl rfl rfl rfl rfl | exact GW.may rfl rfl rfl rfl rfl rfl qN611 | exact GW.may2 rfl rfl rfl rfl rfl rfl qN612) : p := h
theorem qN627 {p : Prop} (h : p := by first | exact GW.yes rfl rfl rfl rfl rfl rfl rfl qN553 | exact GW.no rfl rfl rfl rfl rfl rfl rfl | exact GW.none rfl rfl rfl rfl rfl | exact GW.may rfl rfl rfl rfl rfl rfl qN613 | exact GW.may2 rfl rfl rfl rfl rfl rfl qN614) : p := h
theorem qN628 {p : Prop} (h : p := by first | exact GW.yes rfl rfl rfl rfl rfl rfl rfl qN56 | exact GW.no rfl rfl rfl rfl rfl rfl rfl | exact GW.none rfl rfl rfl rfl rfl | exact GW.may rfl rfl rfl rfl rfl rfl qN615 | exact GW.may2 rfl rfl rfl rfl rfl rfl qN616) : p := h
theorem qN629 {p : Prop} (h : p := by first | exact AStepD.fieldAddr' tok rfl rfl rfl rfl rfl rfl rfl qN618 | exact AStepD.fieldAddr_ip' tok rfl rfl rfl rfl rfl rfl rfl (show List.drop 6 _ = _ from rfl)) : p := h
theorem qN630 {p : Prop} (h : p := by exact SD.s rfl rfl rfl qN619) : p := h
theorem qN631 {p : Prop} (h : p := by exact SD.s rfl rfl rfl qN621) : p := h
theorem qN632 {p : Prop} (h : p := by exact SD.s rfl rfl rfl qN622) : p := h
theorem qN633 {p : Prop} (h : p := by exact (fun hb => by (repeat (first | apply UW.yes rfl (gpf hb) | apply UW.no)); exact UW.nil qN623)) : p := h
theorem qN634 {p : Prop} (h : p := by exact (fun _ hb => by (repeat (first | apply UW.yes rfl (gpf hb) | apply UW.no)); exact UW.nil qN623)) : p := h
theorem qN635 {p : Prop} (h : p := by first | exact GW.yes rfl rfl rfl rfl rfl rfl rfl qN619 | exact GW.no rfl rfl rfl rfl rfl rfl rfl | exact GW.none rfl rfl rfl rfl rfl | exact GW.may rfl rfl rfl rfl rfl rfl (fun hb => by (repeat (first | apply UW.yes rfl (gpf hb) | apply UW.no)); exact UW.nil qN619) | exact GW.may2 rfl rfl rfl rfl rfl rfl (fun _ hb => by (repeat (first | apply UW.yes rfl (gpf hb) | apply UW.no)); exact UW.nil qN619)) : p := h
theorem qN636 {p : Prop} (h : p := by first | exact GW.yes rfl rfl rfl rfl rfl rfl rfl qN629 | exact GW.no rfl rfl rfl rfl rfl rfl rfl | exact GW.none rfl rfl rfl rfl rfl | exact GW.may rfl rfl rfl rfl rfl rfl (fun hb => by (repeat (first | apply UW.yes rfl (gpf hb) | apply UW.no)); exact UW.nil qN629) | exact GW.may2 rfl rfl rfl rfl rfl rfl (fun _ hb => by (repeat (first | apply UW.yes rfl (gpf hb) | apply UW.no)); exact UW.nil qN629)) : p := h
theorem qN637 {p : Prop} (h : p := by first | exact GW.yes rfl rfl rfl rfl rfl rfl rfl qN623 | exact GW.no rfl rfl rfl rfl rfl rfl rfl | exact GW.none rfl rfl rfl rfl rfl | exact GW.may rfl rfl rfl rfl rfl rfl qN633 | exact GW.may2 rfl rfl rfl rfl rfl rfl qN634) : p := h
set_option linter.unusedSimpArgs false
set_option linter.unusedVariables false
set_option maxRecDepth 20000
open Cel (c)

theorem idxK_calls (H : AHeap) (l : List Kn) (g : FuncId) (caps : List AV) (p : Kn → Bool) (he : Go.Ax.Enters Tryz.prog g)
    (hp : ∀ a ∈ l, ACalls Tryz.prog g (.agg (c a) :: caps) H (fun v H' => v = .v (.bool (p a)) ∧ H' = H)) :
    ACalls Tryz.prog 78 [vecA l, .func (.func g) caps] H (fun r H' => r = .v (.int .i64 (idxF p l)) ∧ H' = H) := by
  refine ACalls.of_body tok Tryz.func78 rfl Tryz.ntmps78 (Nat.le_of_ble_eq_true rfl) (fun base => ?_)
  refine rg fun K hK => ?_
  refine st qN541 <| nt (hK _ _ ?_)
  clear hK K
  refine AW.len (s := 0) (x := vecA l) (k := l.length) rfl .vec fun hlen => ?_
  have hlen : l.length ≤ 9223372036854775807 := hlen
  refine AW.seq_k (fun K1 hK1 => ?_)
  refine rg fun K hK => ?_
  refine st qN543 <| st qN630 <| st qN543 <| nt (hK _ _ ?_)
  clear hK K
  refine AW.block ?_
  refine AW.loop_at (ι := Nat) (fun i => [(8, .v (.int .i64 (i : Nat))), (7, .v (.int .i64 (l.length : Nat))), (1, .func (.func g) caps), (0, vecA l)])
    (fun i H' => i ≤ l.length ∧ H' = H ∧ ∀ j (hj : j < l.length), j < i → p l[j] = false) (fun i => l.length - i) 0 qN523 ⟨Nat.zero_le _, rfl, fun _ _ h => by omega⟩ ?_
  rintro i H ⟨hi, rfl, hno⟩
  refine rg fun K hK => ?_
  refine st qN524 <| nt (hK _ _ ?_)
  clear hK K
  refine AW.seq_k (fun K2 hK2 => ?_)
  refine AW.cond _ rfl (fun hc => ?_) (fun hc => ?_)
  · have hc := of_decide_eq_true hc
    have hil : i < l.length := by omega
    refine AW.skip ?_
    refine hK2 _ _ ?_; clear hK2 K2
    refine AW.seq_k (fun K3 hK3 => ?_)
    refine AW.block ?_
    refine rg fun K hK => ?_
    refine st qN543 <| st qN541 <| nt (hK _ _ ?_)
    clear hK K
    refine rg fun K hK => ?_
    refine st qN543 <| st qN543 <| st qN543 <| st qN620 <| st qN631 <| st (by exact SD.s rfl rfl rfl (by exact AStepD.callv rfl rfl he rfl (hp _ (List.getElem_mem hil)))) <| nt (hK _ _ ?_)
    clear hK K
    refine AW.cond _ rfl (fun hc => ?_) (fun hc => ?_)
    · refine rg fun K hK => ?_
      refine st qN543 <| st qN541 <| nt (hK _ _ ?_)
      clear hK K
      refine AW.ret (RetQ.mk (.inr rfl) (retA_tmp rfl qN51 retA_nil) ⟨?_, rfl⟩)
      rw [idxF_at hil hc hno]; rfl
    · refine AW.skip ?_
      refine hK3 _ _ ?_; clear hK3 K3
      refine AW.region ?_
      refine st (by exact SD.s rfl rfl rfl (by first | exact AStepD.add rfl rfl rfl (by first | exact IntWalk.i64_in _ (by omega) | exact IntWalk.i64_in _ (by simp only [Bool.or_eq_true, Bool.and_eq_true, Bool.or_eq_false_iff, Bool.and_eq_false_iff, Bool.not_eq_true', Bool.not_eq_false', decide_eq_true_eq, decide_eq_false_iff_not, Int.not_lt, Int.not_le, beq_iff_eq] at *; omega) | exact rfl) | exact AStepD.str_add rfl rfl rfl (by omega))) <| st qN543 <| AL.nil ?_
      refine ⟨i + 1, by omega, qN523, hil, rfl, fun j hj hji => ?_⟩
      rcases Nat.lt_succ_iff_lt_or_eq.1 hji with h | rfl
      · exact hno j hj h
      · exact hc
  · have hc := of_decide_eq_false hc
    have hil : i = l.length := by omega
    refine AW.exit ?_
    refine hK1 _ _ ?_; try clear hK1 K1
    refine rg fun K hK => ?_
    refine st qN541 <| nt (hK _ _ ?_)
    clear hK K
    refine AW.ret (RetQ.mk (.inr rfl) (retA_tmp rfl qN51 retA_nil) ⟨?_, rfl⟩)
    rw [idxF_no fun j hj => hno j hj (by omega)]; rfl
theorem idxF_any {α : Type} (p : α → Bool) (l : List α) : decide (0 ≤ idxF p l) = l.any p := by
  rcases idxF_find p l with ⟨h1, h2⟩ | ⟨k, hk, h1, h2⟩
  · rw [h1]
    rw [List.find?_eq_none] at h2
    rw [show l.any p = false from List.any_eq_false.2 h2]; rfl
  · rw [h1]
    have := List.find?_some h2
    rw [show l.any p = true from List.any_eq_true.2 ⟨_, List.getElem_mem hk, this⟩]
    simp
theorem contK_calls (H : AHeap) (l : List Kn) (g : FuncId) (caps : List AV) (p : Kn → Bool) (he : Go.Ax.Enters Tryz.prog g)
    (hp : ∀ a ∈ l, ACalls Tryz.prog g (.agg (c a) :: caps) H (fun v H' => v = .v (.bool (p a)) ∧ H' = H)) :
    ACalls Tryz.prog 50 [vecA l, .func (.func g) caps] H (fun r H' => r = .v (.bool (l.any p)) ∧ H' = H) := by
  refine ACalls.of_body tok Tryz.func50 rfl Tryz.ntmps50 (Nat.le_of_ble_eq_true rfl) (fun base => ?_)
  refine rg fun K hK => ?_
  refine st qN541 <| nt (hK _ _ ?_)
  clear hK K
  refine rg fun K hK => ?_
  refine st qN543 <| st qN543 <| st (by exact SD.s rfl rfl rfl (by exact AStepD.callf rfl en78 rfl (idxK_calls H l g caps p he hp))) <| st qN526 <| st qN541 <| nt (hK _ _ ?_)
  clear hK K
  refine AW.ret (RetQ.mk (.inr rfl) (retA_tmp rfl qN51 retA_nil) ⟨?_, rfl⟩)
  exact congrArg (fun b => AV.v (.bool b)) (idxF_any p l)
theorem isid_calls (H : AHeap) (k : Kn) (w : Int) (X : Nat) (hX : H.get X = some (.cells 3 [.v (.int .i64 w)])) : ACalls Tryz.prog 51 [.agg (c k), .ptr X 0] H (fun v H' => v = .v (.bool (decide (k.id = w))) ∧ H' = H) := by
  refine ACalls.quiet_keep ?_ (.v _)
  refine ACalls.lts fun hlt => ?_
  have hXn := hlt _ _ hX
  refine ACalls.of_body tok Tryz.func51 rfl Tryz.ntmps51 (Nat.le_of_ble_eq_true rfl) (fun base => ?_)
  refine rg fun K hK => ?_
  refine st qN632 <| st qN541 <| nt (hK _ _ ?_)
  clear hK K
  refine rg fun K hK => ?_
  refine st qN558 <| st qN561 <| st qN561 <| st qN525 <| st qN541 <| nt (hK _ _ ?_)
  clear hK K
  exact AW.ret (RetQ.mk (.inr rfl) (retA_tmp rfl qN51 retA_nil) ⟨rfl, qN55⟩)
theorem known_calls (H : AHeap) (s : Stt) (w : Int) (X : Nat) (hX : H.get X = some (.cells 34 (s.cs (vecA s.known)))) : ACalls Tryz.prog 49 [.v (.int .i64 w), .ptr X 0] H (fun v H' => v = .v (.bool (knowsB s w)) ∧ H' = H) := by
  refine ACalls.quiet_keep ?_ (.v _)
  refine ACalls.lts fun hlt => ?_
  have hXn := hlt _ _ hX
  have hcl : (s.cs (vecA s.known)).length = s.tab.length + 6 := rfl
  refine ACalls.of_body tok Tryz.func49 rfl Tryz.ntmps49 (Nat.le_of_ble_eq_true rfl) (fun base => ?_)
  refine rg fun K hK => ?_
  refine st qN632 <| st qN541 <| nt (hK _ _ ?_)
  clear hK K
  refine rg fun K hK => ?_
  refine st qN561 <| st qN558 <| st qN561 <| st qN525 <| st qN543 <| st (GW.p (l := [1]) qN637) <| st (GW.p (l := [9]) qN571) <| st (GW.p (l := [2]) (by first | exact GW.yes rfl rfl rfl rfl rfl rfl rfl (by first | exact AStepD.val (AStepD.makeFunc rfl) (congrArg (AV.func _) (amap_cons qN51 amap_nil)) | exact AStepD.makeFunc rfl) | exact GW.no rfl rfl rfl rfl rfl rfl rfl | exact GW.none rfl rfl rfl rfl rfl | exact GW.may rfl rfl rfl rfl rfl rfl (fun hb => by (repeat (first | apply UW.yes rfl (gpf hb) | apply UW.no)); exact UW.nil (by first | exact AStepD.val (AStepD.makeFunc rfl) (congrArg (AV.func _) (amap_cons qN51 amap_nil)) | exact AStepD.makeFunc rfl)) | exact GW.may2 rfl rfl rfl rfl rfl rfl (fun _ hb => by (repeat (first | apply UW.yes rfl (gpf hb) | apply UW.no)); exact UW.nil (by first | exact AStepD.val (AStepD.makeFunc rfl) (congrArg (AV.func _) (amap_cons qN51 amap_nil)) | exact AStepD.makeFunc rfl)))) <| st (GW.p (l := [10, 11]) (by first | exact GW.yes rfl rfl rfl rfl rfl rfl rfl (by exact AStepD.callf rfl en50 rfl (contK_calls _ s.known 51 [.ptr H.next 0] (fun k => decide (k.id = w)) en51 (fun a _ => isid_calls _ a w H.next qN521))) | exact GW.no rfl rfl rfl rfl rfl rfl rfl | exact GW.none rfl rfl rfl rfl rfl | exact GW.may rfl rfl rfl rfl rfl rfl (fun hb => by (repeat (first | apply UW.yes rfl (gpf hb) | apply UW.no)); exact UW.nil (by exact AStepD.callf rfl en50 rfl (contK_calls _ s.known 51 [.ptr H.next 0] (fun k => decide (k.id = w)) en51 (fun a _ => isid_calls _ a w H.next qN521)))) | exact GW.may2 rfl rfl rfl rfl rfl rfl (fun _ hb => by (repeat (first | apply UW.yes rfl (gpf hb) | apply UW.no)); exact UW.nil (by exact AStepD.callf rfl en50 rfl (contK_calls _ s.known 51 [.ptr H.next 0] (fun k => decide (k.id = w)) en51 (fun a _ => isid_calls _ a w H.next qN521)))))) <| st qN547 <| st qN541 <| nt (hK _ _ ?_)
  clear hK K
  exact AW.ret (RetQ.mk (.inr rfl) (retA_tmp rfl qN51 retA_nil) ⟨rfl, qN55⟩)
theorem unknown_calls (H : AHeap) (s : Stt) (w : Int) (X Y : Nat) (hX : H.get X = some (.cells 34 (s.cs (vecA s.known)))) (hY : H.get Y = some (.cells 76 [.func (.func 49) [.ptr X 0]])) : ACalls Tryz.prog 53 [.v (.int .i64 w), .ptr Y 0] H (fun v H' => v = .v (.bool (!knowsB s w)) ∧ H' = H) := by
  refine ACalls.of_body tok Tryz.func53 rfl Tryz.ntmps53 (Nat.le_of_ble_eq_true rfl) (fun base => ?_)
  refine rg fun K hK => ?_
  refine st qN541 <| nt (hK _ _ ?_)
  clear hK K
  refine rg fun K hK => ?_
  refine st qN561 <| st qN543 <| st (by exact SD.s rfl rfl rfl (by exact AStepD.callv rfl rfl en49 rfl (known_calls H s w X hX))) <| st (by exact SD.s rfl rfl rfl (by first | exact AStepD.not rfl rfl | exact AStepD.neg rfl rfl (by first | exact IntWalk.i64_in _ (by omega) | exact IntWalk.i64_in _ (by simp only [Bool.or_eq_true, Bool.and_eq_true, Bool.or_eq_false_iff, Bool.and_eq_false_iff, Bool.not_eq_true', Bool.not_eq_false', decide_eq_true_eq, decide_eq_false_iff_not, Int.not_lt, Int.not_le, beq_iff_eq] at *; omega) | exact rfl))) <| st qN541 <| nt (hK _ _ ?_)
  clear hK K
  exact AW.ret (RetQ.mk (.inr rfl) (retA_tmp rfl qN51 retA_nil) ⟨rfl, rfl⟩)
theorem kn_not (sid last : Int) (k : Kn) : ((!idB k.id || decide (k.id ≤ last) || decide (k.id = sid) || !masB k.master k.id || decide (k.cfg < 0)) || decide (281474976710656 < k.cfg)) = !kn1 sid last k := by
  rw [Bool.eq_iff_iff]
  simp only [kn1, epB, Bool.not_eq_true', ← Bool.not_eq_true, Bool.and_eq_true, Bool.or_eq_true, decide_eq_true_eq, ne_eq]
  by_cases h1 : idB k.id = true <;> by_cases h2 : masB k.master k.id = true <;> simp only [h1, h2, not_true_eq_false, true_or, false_or, true_and, and_true, or_false, false_and, and_false, not_false_eq_true, or_true, Bool.false_eq_true] <;> omega
set_option maxHeartbeats 4000000 in
theorem right_calls (H : AHeap) (s : Stt) (h : s.Ok) : ACalls Tryz.prog 20 [stA s] H (fun r H' => r = .v (.bool (rightB s)) ∧ H' = H) := by
  refine ACalls.quiet_keep ?_ (.v _)
  have hcl : (s.cs (vecA s.known)).length = s.tab.length + 6 := rfl
  have hft := h.ft
  refine ACalls.of_body tok Tryz.func20 rfl Tryz.ntmps20 (Nat.le_of_ble_eq_true rfl) (fun base => ?_)
  refine rg fun K hK => ?_
  refine st (by exact SD.s rfl rfl rfl (by exact AStepD.box (cs := s.cs (vecA s.known)) rfl rfl (s.cs_one rfl))) <| st qN541 <| nt (hK _ _ ?_)
  clear hK K
  refine rg fun K hK => ?_
  refine st qN541 <| nt (hK _ _ ?_)
  clear hK K
  refine AW.seq_k (fun K1 hK1 => ?_)
  refine rg fun K hK => ?_
  refine st (by exact SD.s rfl rfl rfl qN623) <| st qN561 <| st qN630 <| st qN543 <| nt (hK _ _ ?_)
  clear hK K
  refine AW.len (s := 9) (x := vecA s.known) (k := s.known.length) rfl .vec fun hlen => ?_
  have hlen : s.known.length ≤ 9223372036854775807 := hlen
  refine AW.block ?_
  refine AW.loop_at (ι := Nat × Int) (fun x => [(11, .v (.int .i64 (x.1 : Nat))), (10, .v (.int .i64 (s.known.length : Nat))), (9, vecA s.known), (3, .v (.int .i64 x.2)), (1, .ptr H.next 0)])
    (fun x H' => x.1 ≤ s.known.length ∧ H'.get H.next = some (.cells 34 (s.cs (vecA s.known))) ∧ knB s.id 0 s.known = knB s.id x.2 (s.known.drop x.1) ∧ Keep H H' ∧ H.next < H'.next) (fun x => s.known.length - x.1) (0, 0) qN523 ⟨Nat.zero_le _, qN521, rfl, qN55, qN67⟩ ?_
  rintro ⟨i, last⟩ H2 ⟨hi, g0, hkn, hk, hn⟩
  dsimp only at hi hkn ⊢
  refine rg fun K hK => ?_
  refine st qN524 <| nt (hK _ _ ?_)
  clear hK K
  refine AW.seq_k (fun K2 hK2 => ?_)
  refine AW.cond _ rfl (fun hc => ?_) (fun hc => ?_)
  · (try simp only [Bool.or_eq_true, Bool.and_eq_true, Bool.or_eq_false_iff, Bool.and_eq_false_iff, Bool.not_eq_true', Bool.not_eq_false', decide_eq_true_eq, decide_eq_false_iff_not, Int.not_lt, Int.not_le] at hc)
    have hil : i < s.known.length := by omega
    rw [List.drop_eq_getElem_cons hil, knB] at hkn
    refine AW.skip ?_
    refine hK2 _ _ ?_; try clear hK2 K2
    refine AW.seq_k (fun K3 hK3 => ?_)
    refine AW.block ?_
    refine rg fun K hK => ?_
    refine st qN620 <| st qN631 <| st qN624 <| st0 (by exact ⟨rfl, rfl, qN625⟩) <| nt (hK _ _ ?_)
    clear hK K
    generalize s.known[i] = k at hkn
    refine AW.seq_k (fun K4 hK4 => ?_)
    refine rg fun K hK => ?_
    refine st qN558 <| st qN561 <| st (by exact SD.s rfl rfl rfl (by exact AStepD.callf rfl en47 rfl (id_calls _ k.id))) <| st (by exact SD.s rfl rfl rfl (by first | exact AStepD.not rfl rfl | exact AStepD.neg rfl rfl (by first | exact IntWalk.i64_in _ (by omega) | exact IntWalk.i64_in _ (by simp only [Bool.or_eq_true, Bool.and_eq_true, Bool.or_eq_false_iff, Bool.and_eq_false_iff, Bool.not_eq_true', Bool.not_eq_false', decide_eq_true_eq, decide_eq_false_iff_not, Int.not_lt, Int.not_le, beq_iff_eq] at *; omega) | exact rfl))) <| st qN543 <| st (GW.p (l := [5]) qN572) <| st (GW.p (l := [20]) qN571) <| st (GW.p (l := [3]) qN559) <| st (GW.p (l := [21, 22]) qN546) <| st qN547 <| st qN543 <| st (GW.p (l := [5]) qN572) <| st (GW.p (l := [26]) qN571) <| st (GW.p (l := [1]) qN572) <| st (GW.p (l := [28]) qN571) <| st (GW.p (l := [27, 29]) qN540) <| st qN547 <| st qN543 <| st (GW.p (l := [5]) qN626) <| st (GW.p (l := [33]) qN571) <| st (GW.p (l := [5]) qN572) <| st (GW.p (l := [35]) qN571) <| st (GW.p (l := [34, 36]) (by first | exact GW.yes rfl rfl rfl rfl rfl rfl rfl (by exact AStepD.callf rfl en48 rfl (master_calls _ k.master k.id)) | exact GW.no rfl rfl rfl rfl rfl rfl rfl | exact GW.none rfl rfl rfl rfl rfl | exact GW.may rfl rfl rfl rfl rfl rfl (fun hb => by (repeat (first | apply UW.yes rfl (gpf hb) | apply UW.no)); exact UW.nil (by exact AStepD.callf rfl en48 rfl (master_calls _ k.master k.id))) | exact GW.may2 rfl rfl rfl rfl rfl rfl (fun _ hb => by (repeat (first | apply UW.yes rfl (gpf hb) | apply UW.no)); exact UW.nil (by exact AStepD.callf rfl en48 rfl (master_calls _ k.master k.id))))) <| st (GW.p (l := [37]) (by first | exact GW.yes rfl rfl rfl rfl rfl rfl rfl (by first | exact AStepD.not rfl rfl | exact AStepD.neg rfl rfl (by first | exact IntWalk.i64_in _ (by omega) | exact IntWalk.i64_in _ (by simp only [Bool.or_eq_true, Bool.and_eq_true, Bool.or_eq_false_iff, Bool.and_eq_false_iff, Bool.not_eq_true', Bool.not_eq_false', decide_eq_true_eq, decide_eq_false_iff_not, Int.not_lt, Int.not_le, beq_iff_eq] at *; omega) | exact rfl)) | exact GW.no rfl rfl rfl rfl rfl rfl rfl | exact GW.none rfl rfl rfl rfl rfl | exact GW.may rfl rfl rfl rfl rfl rfl (fun hb => by (repeat (first | apply UW.yes rfl (gpf hb) | apply UW.no)); exact UW.nil (by first | exact AStepD.not rfl rfl | exact AStepD.neg rfl rfl (by first | exact IntWalk.i64_in _ (by omega) | exact IntWalk.i64_in _ (by simp only [Bool.or_eq_true, Bool.and_eq_true, Bool.or_eq_false_iff, Bool.and_eq_false_iff, Bool.not_eq_true', Bool.not_eq_false', decide_eq_true_eq, decide_eq_false_iff_not, Int.not_lt, Int.not_le, beq_iff_eq] at *; omega) | exact rfl))) | exact GW.may2 rfl rfl rfl rfl rfl rfl (fun _ hb => by (repeat (first | apply UW.yes rfl (gpf hb) | apply UW.no)); exact UW.nil (by first | exact AStepD.not rfl rfl | exact AStepD.neg rfl rfl (by first | exact IntWalk.i64_in _ (by omega) | exact IntWalk.i64_in _ (by simp only [Bool.or_eq_true, Bool.and_eq_true, Bool.or_eq_false_iff, Bool.and_eq_false_iff, Bool.not_eq_true', Bool.not_eq_false', decide_eq_true_eq, decide_eq_false_iff_not, Int.not_lt, Int.not_le, beq_iff_eq] at *; omega) | exact rfl))))) <| st qN547 <| st qN543 <| st (GW.p (l := [5]) qN627) <| st (GW.p (l := [41]) qN571) <| st (GW.p (l := [42]) qN628) <| st qN547 <| st qN543 <| st (GW.p (l := [5]) qN627) <| st (GW.p (l := [46]) qN571) <| st (GW.p (l := [47]) qN554) <| st qN547 <| nt (hK _ _ ?_)
    clear hK K
    refine AW.cond _ rfl (fun hc => ?_) (fun hc => ?_)
    · have hc : (!kn1 s.id last k) = true := (kn_not _ _ _).symm.trans hc
      refine rg fun K hK => ?_
      refine st qN541 <| nt (hK _ _ ?_)
      clear hK K
      refine AW.ret (RetQ.mk (.inr rfl) (retA_tmp rfl qN51 retA_nil) ⟨?_, qN617⟩)
      rw [rightB, hkn, show kn1 s.id last k = false by simpa using hc]; rfl
    · have hc : (!kn1 s.id last k) = false := (kn_not _ _ _).symm.trans hc
      refine AW.skip ?_
      refine hK4 _ _ ?_; try clear hK4 K4
      refine AW.region ?_
      refine st qN558 <| st qN561 <| st qN541 <| AL.nil ?_
      refine hK3 _ _ ?_; try clear hK3 K3
      refine AW.region ?_
      refine st (by exact SD.s rfl rfl rfl (by first | exact AStepD.add rfl rfl rfl (by first | exact IntWalk.i64_in _ (by omega) | exact IntWalk.i64_in _ (by simp only [Bool.or_eq_true, Bool.and_eq_true, Bool.or_eq_false_iff, Bool.and_eq_false_iff, Bool.not_eq_true', Bool.not_eq_false', decide_eq_true_eq, decide_eq_false_iff_not, Int.not_lt, Int.not_le, beq_iff_eq] at *; omega) | exact rfl) | exact AStepD.str_add rfl rfl rfl (by omega))) <| st qN543 <| AL.nil ?_
      exact ⟨(i + 1, k.id), by show s.known.length - (i + 1) < s.known.length - i; omega, qN523, hil, qN521, by rw [hkn, show kn1 s.id last k = true by simpa using hc]; rfl, qN617, qN67⟩
  · (try simp only [Bool.or_eq_true, Bool.and_eq_true, Bool.or_eq_false_iff, Bool.and_eq_false_iff, Bool.not_eq_true', Bool.not_eq_false', decide_eq_true_eq, decide_eq_false_iff_not, Int.not_lt, Int.not_le] at hc)
    obtain rfl : i = s.known.length := by omega
    rw [List.drop_length] at hkn
    have hkn : knB s.id 0 s.known = true := hkn
    refine AW.exit ?_
    refine hK1 _ _ ?_; try clear hK1 K1
    refine rg fun K hK => ?_
    refine st (by exact SD.s rfl rfl rfl (by first | exact AStepD.val (AStepD.makeFunc rfl) (congrArg (AV.func _) (amap_cons qN51 amap_nil)) | exact AStepD.makeFunc rfl)) <| st qN624 <| st0 (by exact ⟨rfl, rfl, qN625⟩) <| nt (hK _ _ ?_)
    clear hK K
    have how : (ownL s.own).length ≤ 1000 := by
      have h1 := Lib.compact_length_le (sortI s.own)
      have h2 := List.length_filter_le (fun x => decide (x ≠ 0)) (Lib.compact (sortI s.own))
      rw [sortI_len, h.o] at h1
      rw [ownL]; omega
    refine rg fun K hK => ?_
    refine st (by exact SD.s rfl rfl rfl qN629) <| st (by exact SD.s rfl rfl rfl (by exact AStepD.load_agg (cs := s.cs (vecA s.known)) tok rfl rfl rfl qN521 rfl (show _ = 128 from rfl) (by rw [hcl]; omega) h.takeT)) <| st (by exact SD.s rfl rfl rfl (by exact AStepD.callf rfl en25 rfl (owners_calls _ s h))) <| st (by exact SD.s rfl rfl rfl (by first | exact AStepD.val (AStepD.makeFunc rfl) (congrArg (AV.func _) (amap_cons qN51 amap_nil)) | exact AStepD.makeFunc rfl)) <| st (by exact SD.s rfl rfl rfl (by exact AStepD.callf rfl en52 rfl (contI_calls _ (ownL s.own) 53 [.ptr H2.next 0] (fun w => !knowsB s w) en53 how (fun a _ => unknown_calls _ s a H.next H2.next qN521 qN521)))) <| st qN541 <| nt (hK _ _ ?_)
    clear hK K
    refine rg fun K hK => ?_
    refine st qN558 <| st qN561 <| st (by exact SD.s rfl rfl rfl (by exact AStepD.callf rfl en47 rfl (id_calls _ s.id))) <| st qN543 <| st (GW.p (l := [1]) qN626) <| st (GW.p (l := [63]) qN571) <| st (GW.p (l := [1]) qN572) <| st (GW.p (l := [65]) qN571) <| st (GW.p (l := [64, 66]) (by first | exact GW.yes rfl rfl rfl rfl rfl rfl rfl (by exact AStepD.callf rfl en48 rfl (master_calls _ s.master s.id)) | exact GW.no rfl rfl rfl rfl rfl rfl rfl | exact GW.none rfl rfl rfl rfl rfl | exact GW.may rfl rfl rfl rfl rfl rfl (fun hb => by (repeat (first | apply UW.yes rfl (gpf hb) | apply UW.no)); exact UW.nil (by exact AStepD.callf rfl en48 rfl (master_calls _ s.master s.id))) | exact GW.may2 rfl rfl rfl rfl rfl rfl (fun _ hb => by (repeat (first | apply UW.yes rfl (gpf hb) | apply UW.no)); exact UW.nil (by exact AStepD.callf rfl en48 rfl (master_calls _ s.master s.id))))) <| st qN547 <| st qN543 <| st (GW.p (l := [1]) qN627) <| st (GW.p (l := [70]) (by first | exact GW.yes rfl rfl rfl rfl rfl rfl rfl (by exact AStepD.load_agg (cs := s.cs (vecA s.known)) tok rfl rfl rfl qN521 rfl (show _ = 3 from rfl) (by rw [hcl]; omega) rfl) | exact GW.no rfl rfl rfl rfl rfl rfl rfl | exact GW.none rfl rfl rfl rfl rfl | exact GW.may rfl rfl rfl rfl rfl rfl (fun hb => by (repeat (first | apply UW.yes rfl (gpf hb) | apply UW.no)); exact UW.nil (by exact AStepD.load_agg (cs := s.cs (vecA s.known)) tok rfl rfl rfl qN521 rfl (show _ = 3 from rfl) (by rw [hcl]; omega) rfl)) | exact GW.may2 rfl rfl rfl rfl rfl rfl (fun _ hb => by (repeat (first | apply UW.yes rfl (gpf hb) | apply UW.no)); exact UW.nil (by exact AStepD.load_agg (cs := s.cs (vecA s.known)) tok rfl rfl rfl qN521 rfl (show _ = 3 from rfl) (by rw [hcl]; omega) rfl)))) <| st (GW.p (l := [71]) (by first | exact GW.yes rfl rfl rfl rfl rfl rfl rfl (by exact AStepD.callf rfl en54 rfl (epochs_calls _ s)) | exact GW.no rfl rfl rfl rfl rfl rfl rfl | exact GW.none rfl rfl rfl rfl rfl | exact GW.may rfl rfl rfl rfl rfl rfl (fun hb => by (repeat (first | apply UW.yes rfl (gpf hb) | apply UW.no)); exact UW.nil (by exact AStepD.callf rfl en54 rfl (epochs_calls _ s))) | exact GW.may2 rfl rfl rfl rfl rfl rfl (fun _ hb => by (repeat (first | apply UW.yes rfl (gpf hb) | apply UW.no)); exact UW.nil (by exact AStepD.callf rfl en54 rfl (epochs_calls _ s))))) <| st qN547 <| st qN543 <| st (GW.p (l := [1]) qN637) <| st (GW.p (l := [75]) qN571) <| st (GW.p (l := [76]) qN635) <| st (GW.p (l := [77]) qN628) <| st qN547 <| st qN543 <| st (GW.p (l := [1]) qN636) <| st (GW.p (l := [81]) (by first | exact GW.yes rfl rfl rfl rfl rfl rfl rfl (by exact AStepD.load_agg (cs := s.cs (vecA s.known)) tok rfl rfl rfl qN521 rfl (show _ = 128 from rfl) (by rw [hcl]; omega) h.takeT) | exact GW.no rfl rfl rfl rfl rfl rfl rfl | exact GW.none rfl rfl rfl rfl rfl | exact GW.may rfl rfl rfl rfl rfl rfl (fun hb => by (repeat (first | apply UW.yes rfl (gpf hb) | apply UW.no)); exact UW.nil (by exact AStepD.load_agg (cs := s.cs (vecA s.known)) tok rfl rfl rfl qN521 rfl (show _ = 128 from rfl) (by rw [hcl]; omega) h.takeT)) | exact GW.may2 rfl rfl rfl rfl rfl rfl (fun _ hb => by (repeat (first | apply UW.yes rfl (gpf hb) | apply UW.no)); exact UW.nil (by exact AStepD.load_agg (cs := s.cs (vecA s.known)) tok rfl rfl rfl qN521 rfl (show _ = 128 from rfl) (by rw [hcl]; omega) h.takeT)))) <| st (GW.p (l := [82]) (by first | exact GW.yes rfl rfl rfl rfl rfl rfl rfl (by exact AStepD.callf rfl en55 rfl (table_calls _ s h)) | exact GW.no rfl rfl rfl rfl rfl rfl rfl | exact GW.none rfl rfl rfl rfl rfl | exact GW.may rfl rfl rfl rfl rfl rfl (fun hb => by (repeat (first | apply UW.yes rfl (gpf hb) | apply UW.no)); exact UW.nil (by exact AStepD.callf rfl en55 rfl (table_calls _ s h))) | exact GW.may2 rfl rfl rfl rfl rfl rfl (fun _ hb => by (repeat (first | apply UW.yes rfl (gpf hb) | apply UW.no)); exact UW.nil (by exact AStepD.callf rfl en55 rfl (table_calls _ s h))))) <| st qN547 <| st qN543 <| st (GW.p (l := [7]) qN559) <| st (GW.p (l := [86]) (by first | exact GW.yes rfl rfl rfl rfl rfl rfl rfl (by first | exact AStepD.not rfl rfl | exact AStepD.neg rfl rfl (by first | exact IntWalk.i64_in _ (by omega) | exact IntWalk.i64_in _ (by simp only [Bool.or_eq_true, Bool.and_eq_true, Bool.or_eq_false_iff, Bool.and_eq_false_iff, Bool.not_eq_true', Bool.not_eq_false', decide_eq_true_eq, decide_eq_false_iff_not, Int.not_lt, Int.not_le, beq_iff_eq] at *; omega) | exact rfl)) | exact GW.no rfl rfl rfl rfl rfl rfl rfl | exact GW.none rfl rfl rfl rfl rfl | exact GW.may rfl rfl rfl rfl rfl rfl (fun hb => by (repeat (first | apply UW.yes rfl (gpf hb) | apply UW.no)); exact UW.nil (by first | exact AStepD.not rfl rfl | exact AStepD.neg rfl rfl (by first | exact IntWalk.i64_in _ (by omega) | exact IntWalk.i64_in _ (by simp only [Bool.or_eq_true, Bool.and_eq_true, Bool.or_eq_false_iff, Bool.and_eq_false_iff, Bool.not_eq_true', Bool.not_eq_false', decide_eq_true_eq, decide_eq_false_iff_not, Int.not_lt, Int.not_le, beq_iff_eq] at *; omega) | exact rfl))) | exact GW.may2 rfl rfl rfl rfl rfl rfl (fun _ hb => by (repeat (first | apply UW.yes rfl (gpf hb) | apply UW.no)); exact UW.nil (by first | exact AStepD.not rfl rfl | exact AStepD.neg rfl rfl (by first | exact IntWalk.i64_in _ (by omega) | exact IntWalk.i64_in _ (by simp only [Bool.or_eq_true, Bool.and_eq_true, Bool.or_eq_false_iff, Bool.and_eq_false_iff, Bool.not_eq_true', Bool.not_eq_false', decide_eq_true_eq, decide_eq_false_iff_not, Int.not_lt, Int.not_le, beq_iff_eq] at *; omega) | exact rfl))))) <| st qN547 <| st qN541 <| nt (hK _ _ ?_)
    clear hK K
    refine AW.ret (RetQ.mk (.inr rfl) (retA_tmp rfl qN51 retA_nil) ⟨?_, qN617⟩)
    refine congrArg (fun b => AV.v (.bool b)) ?_
    rw [rightB, hkn, ownB, Bool.true_and]
    rw [show decide ((s.known.length : Int) < 16) = decide (s.known.length < 16) from decide_eq_decide.2 (by omega)]
end Go.Proofs.YtcomjodfkcnjhaaGreatDoor
