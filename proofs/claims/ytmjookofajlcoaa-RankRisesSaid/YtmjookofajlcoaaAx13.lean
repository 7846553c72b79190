/- The abstract layer, part 13: more steps with their values written out; calls with a known outcome. -/
import Derived.Test.YtmjookofajlcoaaAx12
namespace Go.Ax
variable {md : Md}

section
variable {P : Program} {o : Oper} {T : Fr} {H H1 : AHeap} {y : AV}

theorem AStepD.callf {f : FuncId} {args : Array Operand} {ats : Array TypeId} {as : List AV} (ho : o.op = .call { callee := .value (.func f), args := args, argTypes := ats }) (he : Enters P f) (ha : args.toList.map (aev T) = as)
    (h : ACalls P f as H fun r H' => r = y ∧ H' = H1) : AStepD P o T H y H1 := by
  subst ha
  exact AStep.callf ho he h
theorem AStep.callf' {f : FuncId} {args : Array Operand} {ats : Array TypeId} {as : List AV} {K : AV → AHeap → Prop} (ho : o.op = .call { callee := .value (.func f), args := args, argTypes := ats }) (he : Enters P f) (ha : args.toList.map (aev T) = as)
    (h : ACalls P f as H K) : AStep P o T H K := by
  subst ha
  exact AStep.callf ho he h

def boundV (T : Fr) (x : Option Operand) (d : Int) : AV := match x with | none => .v (.int .i64 d) | some z => aev T z
theorem boundV_E {x : Option Operand} {d : Int} {k : IntKind} {e : Int} (h : boundV T x d = .v (.int k e)) : boundE T x d = e := by
  cases x with
  | none => simp only [boundV, AV.v.injEq, Value.int.injEq] at h; exact h.2
  | some z => simp only [boundV] at h; simp only [boundE, h]

variable {TT : Nat → TI} (hT : TOk P TT)
include hT

theorem AStepD.slice_vec' {t e : TypeId} {x : Operand} {lo hi : Option Operand} {n l h : Nat} {cs cs' : List AV} {kl kh : IntKind} {el eh : Int} {m k : Nat} (ho : o.op = .slice t x lo hi none) (hx : aev T x = .vec n cs) (hok : (TT t).ok = true) (hu : (TT t).und = .slice e) (hoke : (TT e).ok = true) (hk : (TT e).size = k)
    (bl : boundV T lo (0 : Nat) = .v (.int kl el)) (bh : boundV T hi (n : Nat) = .v (.int kh eh)) (hl : el = (l : Int)) (hh : eh = (h : Int)) (h1 : l ≤ h) (h2 : h ≤ n) (hm : h - l = m) (hv : (cs.drop (l * k)).take ((h - l) * k) = cs') : AStepD P o T H (.vec m cs') H := by
  subst hm; subst hk; subst hv
  exact .slice_vec hT ho hx hok hoke hu ((boundV_E bl).trans hl) ((boundV_E bh).trans hh) h1 h2
theorem AStepD.slice_sl' {t e : TypeId} {x : Operand} {lo hi : Option Operand} {ll off len k l h : Nat} {kl kh : IntKind} {el eh : Int} {z : AV} (ho : o.op = .slice t x lo hi none) (hx : aev T x = .sl ll off len k) (hok : (TT t).ok = true) (hu : (TT t).und = .slice e) (hoke : (TT e).ok = true) (hk : (TT e).size = k)
    (bl : boundV T lo (0 : Nat) = .v (.int kl el)) (bh : boundV T hi (len : Nat) = .v (.int kh eh)) (hl : el = (l : Int)) (hh : eh = (h : Int)) (h1 : l ≤ h) (h2 : h ≤ len) (hv : (if l = len ∧ 0 < l then .vec 0 [] else .sl ll (off + l * k) (h - l) k) = z) : AStepD P o T H z H := by
  subst hv
  exact .slice_sl hT ho hx hok hoke hu hk ((boundV_E bl).trans hl) ((boundV_E bh).trans hh) h1 h2
theorem AStepD.slice_str' {t : TypeId} {x : Operand} {lo hi : Option Operand} {l h : Nat} {s : ByteArray} {kl kh : IntKind} {el eh : Int} (ho : o.op = .slice t x lo hi none) (hx : aev T x = .v (.string s)) (hok : (TT t).ok = true) (hu : (TT t).und = .string)
    (bl : boundV T lo (0 : Nat) = .v (.int kl el)) (bh : boundV T hi (s.size : Nat) = .v (.int kh eh)) (hl : el = (l : Int)) (hh : eh = (h : Int)) (h1 : l ≤ h) (h2 : h ≤ s.size) : AStepD P o T H (.v (.string (s.extract l h))) H :=
  .slice_str hT ho hx hok hu ((boundV_E bl).trans hl) ((boundV_E bh).trans hh) h1 h2
theorem AStepD.slice_arr' {t e : TypeId} {x : Operand} {lo hi : Option Operand} {ll off n l h k : Nat} {ty : TypeId} {cs : List AV} {kl kh : IntKind} {el eh : Int} (ho : o.op = .slice t x lo hi none) (hx : aev T x = .ptr ll off) (hok : (TT t).ok = true) (hu : (TT t).und = .array n e) (hoke : (TT e).ok = true) (hk : (TT e).size = k)
    (hH : H.get ll = some (.cells ty cs)) (bl : boundV T lo (0 : Nat) = .v (.int kl el)) (bh : boundV T hi (n : Nat) = .v (.int kh eh)) (hl : el = (l : Int)) (hh : eh = (h : Int)) (hfit : off + n * k ≤ cs.length) (hn : n ≤ maxLen) (h1 : l ≤ h) (h2 : h ≤ n) (h3 : l < n) : AStepD P o T H (.sl ll (off + l * k) (h - l) k) H :=
  .slice_arr hT ho hx hok hoke hu hk hH hfit hn ((boundV_E bl).trans hl) ((boundV_E bh).trans hh) h1 h2 h3

theorem AStepD.indexAddr_vec' {t e : TypeId} {x y : Operand} {n i kk : Nat} {k : IntKind} {j : Int} {cs : List AV} (ho : o.op = .indexAddr t x y) (hx : aev T x = .vec n cs) (hy : aev T y = .v (.int k j)) (hok : (TT t).ok = true) (hu : (TT t).und = .slice e) (hoke : (TT e).ok = true) (hk : (TT e).size = kk)
    (hj : j = (i : Int)) (hi : i < n) : AStepD P o T H (.ip (cs.drop (i * kk))) H := by
  subst hk
  exact .indexAddr_vec hT ho hx hy hok hoke hu hj hi

/-- append of a list of whole elements, to a slice that ends where its location ends. -/
theorem AStepD.append' {t t2 e : TypeId} {x z : Operand} {l len n k : Nat} {ys cs : List AV} {ty : TypeId} {src : AV} {m bk : Nat} {zs : List AV} (ho : o.op = .call { callee := .builtin .append, args := #[x, z], argTypes := #[t, t2] }) (hx : aev T x = .sl l 0 len k) (hz : aev T z = src) (hok : (TT t).ok = true) (hu : (TT t).und = .slice e) (hok2 : (TT t2).ok = true) (hu2 : (TT t2).und = .slice e)
    (hoke : (TT e).ok = true) (hk : (TT e).size = k) (hbk : Nat.ble (TT e).bytes bk = true) (hH : H.get l = some (.cells ty cs)) (hte : ty = e) (hcs : cs.length = len * k) (hsrc : Src H k src n ys) (hys : ys.length = n * k) (hone : ∀ z ∈ ys, z.one = true)
    (hb : (len + n) * bk ≤ 140737488355328) (hm : len + n ≤ 9223372036854775807) (hmm : len + n = m) (hzs : cs ++ ys = zs) :
    AStepD P o T H (.sl H.next 0 m k) ((H.new (.cells e zs)).del l) := by
  subst hmm; subst hzs
  exact .append hT ho hx hH hcs (hz ▸ hsrc) hys hone hok hoke hok2 hu hu2 hk hte (Nat.le_trans (Nat.mul_le_mul_left _ (Nat.le_of_ble_eq_true hbk)) hb) hm
theorem AStepD.append_nil' {t t2 e : TypeId} {x z : Operand} {n k bk : Nat} {ys : List AV} {src : AV} (ho : o.op = .call { callee := .builtin .append, args := #[x, z], argTypes := #[t, t2] }) (hx : aev T x = .v (.slice none 0 0)) (hz : aev T z = src) (hok : (TT t).ok = true) (hu : (TT t).und = .slice e) (hok2 : (TT t2).ok = true) (hu2 : (TT t2).und = .slice e)
    (hoke : (TT e).ok = true) (hk : (TT e).size = k) (hbk : Nat.ble (TT e).bytes bk = true) (hsrc : Src H k src n ys) (hys : ys.length = n * k) (hn : 0 < n) (hb : n * bk ≤ 140737488355328) (hm : n ≤ 9223372036854775807) :
    AStepD P o T H (.sl H.next 0 n k) (H.new (.cells e ys)) := by
  exact .append_nil hT ho hx (hz ▸ hsrc) hys hn hok hoke hok2 hu hu2 hk (Nat.le_trans (Nat.mul_le_mul_left _ (Nat.le_of_ble_eq_true hbk)) hb) hm
end

/-- Frames that are spelled otherwise. -/
theorem AW.frame {P : Program} {c : Code} {Q : APost} {T T' : Fr} {H H' : AHeap} {n : Nat} (hT : T = T') (hH : H = H') (h : AW md P c Q T' H' n) : AW md P c Q T H n := by subst hT; subst hH; exact h

end Go.Ax
