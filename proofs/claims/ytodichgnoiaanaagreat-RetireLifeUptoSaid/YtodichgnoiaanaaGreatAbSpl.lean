/- The pieces of a text between the places of a byte. -/
import Derived.Test.YtodichgnoiaanaaGreatAbPlain
import Derived.Lib.ItoaNum
import Derived.Lib.IndexMore
set_option linter.unusedVariables false
set_option linter.unusedSimpArgs false
set_option linter.unnecessarySimpa false
namespace Go.Ab
open Go
def abc (c:UInt8):List UInt8->List (List UInt8)
 | []=>[[]]
 | b::r=>bif b==c then []::abc c r else match abc c r with | x::q=>(b::x)::q | []=>[[b]]
theorem ajq (c:UInt8):∀ s,abc c s≠[]:=by
 intro s
 cases s with
 | nil=>simp [abc]
 | cons b r=>
  simp only [abc]
  cases (b==c)
  ·simp only [cond_false];split<;>simp
  ·simp
def decF:Nat->Nat->List UInt8
 | 0,_=>[]
 | f+1,u=>bif Nat.ble u 9 then [UInt8.ofNat (48+u)] else decF f (u / 10)++[UInt8.ofNat (48+u%10)]
theorem a4y:∀ (f u:Nat),u<10^(f+1)->decF (f+1) u=Lib.decDigits u:=by
 intro f
 induction f with
 | zero=>
  intro u hu
  have h9:Nat.ble u 9=true:=by rw [Nat.ble_eq];omega
  rw [Lib.decDigits,dif_pos (by omega)]
  simp only [decF,h9,cond_true]
 | succ f ih=>
  intro u hu
  rw [Lib.decDigits]
  by_cases h:u<10
  ·have h9:Nat.ble u 9=true:=by rw [Nat.ble_eq];omega
   rw [dif_pos h,decF,h9];rfl
  ·have h9:Nat.ble u 9=false:=by rw [<-Bool.not_eq_true,Nat.ble_eq];omega
   rw [dif_neg h,decF,h9]
   show decF (f+1) (u / 10)++_=_
   rw [ih (u / 10) (by rw [Nat.pow_succ] at hu;omega)]
def decB (u:Nat):List UInt8:=decF 20 u
theorem a4x {u:Nat} (h:u<100000000000000000000):decB u=Lib.decDigits u:=a4y 19 u (by simpa using h)
def atn (n:Int):List UInt8:=bif decide (n<0) then 45::decB n.natAbs else decB n.toNat
end Go.Ab
