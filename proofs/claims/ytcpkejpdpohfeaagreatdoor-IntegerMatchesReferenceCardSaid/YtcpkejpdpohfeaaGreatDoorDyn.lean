/- A law of the walk: a call through a function value that lies in a slot. Conditions: none. -/
import Derived.Test.YtcpkejpdpohfeaaGreatDoorMem
namespace Go.Proofs.YtcpkejpdpohfeaaGreatDoor
open Go.RowKit

/-! ### A call through a function value in a slot: taken ahead of any unfolding -/
def isDyn : Value → Bool
  | .func (.func _) _ _ => true
  | _ => false
def fidOf : Value → FuncId
  | .func (.func f) _ _ => f
  | _ => 0
def firstOf : Value → Array Value
  | .func (.func _) xs _ => xs
  | _ => #[]
def capOf : Value → Array Value
  | .func (.func _) _ xs => xs
  | _ => #[]
@[go_sem] theorem isDyn_func (f : FuncId) (xs ys : Array Value) : isDyn (.func (.func f) xs ys) = true := rfl
@[go_sem] theorem fidOf_func (f : FuncId) (xs ys : Array Value) : fidOf (.func (.func f) xs ys) = f := rfl
@[go_sem] theorem firstOf_func (f : FuncId) (xs ys : Array Value) : firstOf (.func (.func f) xs ys) = xs := rfl
@[go_sem] theorem capOf_func (f : FuncId) (xs ys : Array Value) : capOf (.func (.func f) xs ys) = ys := rfl
@[go_sem ↓] theorem execOp_call_dyn (a : Act) (n : Tmp) (dst : Option Tmp) (xs : Array Operand) (ats : Array TypeId) (ty : TypeId) (pos : String) (after : Array Edge) (guard : Option (Nat × Bool)) (h : isDyn (a.eval (.tmp n)) = true) :
    execOp a.eval { dst, op := .call { callee := .value (.tmp n), args := xs, argTypes := ats }, type := ty, pos, after, guard } =
      callFunc (fidOf (a.eval (.tmp n))) (firstOf (a.eval (.tmp n)) ++ xs.map a.eval ++ capOf (a.eval (.tmp n))) := by
  generalize hv : a.eval (.tmp n) = v at h ⊢
  cases v with
  | func fn fs cs =>
    cases fn with
    | func f => simp only [execOp, resolve, hv, Deferred.ofValue]; rfl
    | _ => cases h
  | _ => cases h

end Go.Proofs.YtcpkejpdpohfeaaGreatDoor
