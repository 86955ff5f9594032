/- Plain laws: small tools. -/
import Derived.Test.YthokbeimbdnnoaaGreatDoorAbLoop
import Derived.IntWalk
set_option linter.unusedVariables false
set_option linter.unusedSimpArgs false
set_option linter.unnecessarySimpa false
namespace Go.Ab
open Go
theorem a4n {n:Int} (h:-9223372036854775808<=n) (o:n<=9223372036854775807):IntKind.wrap .i64 n=n:=IntWalk.i64_in n ⟨h,o⟩
theorem aa9 {n:Nat} (h:n<=9223372036854775807):IntKind.wrap .i64 (n:Int)=(n:Int):=IntWalk.i64_in n ⟨by omega,by omega⟩
theorem aab (i n:Nat):aaa (i:Int) n=decide (i<n):=by
 unfold aaa;by_cases h:i<n
 ·simp [h]
 ·simp [h]
theorem aaf {o:Type}{l:List o}{i:Nat}{d:o} (h:i<l.length):l.getD i d=l[i]:=by simp [List.getD,h]
theorem abc {o:Type}{l:List o}{i:Nat} (h:i<l.length) (d:o):l.drop i=l.getD i d::l.drop (i+1):=by rw [aaf h];exact List.drop_eq_getElem_cons h
theorem a3f {h z o:Type} (f:h->o) (g:z->o) (a:h):sumE f g (.inl a)=f a:=rfl
theorem apr {z h o:Type} (f:z->o) (g:h->o) (b:h):sumE f g (.inr b)=g b:=rfl
end Go.Ab
namespace Go.Ab
open Go
def allF (p:Nat->Bool):Nat->Nat->Bool
 | _,0=>true
 | i,k+1=>p i&&allF p (i+1) k
theorem aus (i n:Nat):decide ((i:Int)<(n:Int))=decide (i<n):=by
 by_cases h:i<n
 ·simp [h]
 ·simp [h]
theorem aiy {I M:Type}{step:I->Option (I⊕M)} (st:Nat->I) (n:Nat) (p:Nat->Bool) (bad o:M) (z:∀ i,i<n->step (st i)=some (bif p i then .inl (st (i+1)) else .inr bad)) (H:step (st n)=some (.inr o)):
 ∀ k i,i+k=n->aba step (st i)=some (bif allF p i k then o else bad):=by
 intro k
 induction k with
 | zero=>
  intro i O
  have:i=n:=by omega
  subst this
  simp only [allF,Af]
  exact aai H
 | succ k Z=>
  intro i O
  have h:=z i (by omega)
  simp only [allF]
  cases J:p i with
  | true=>
   rw [J] at h
   rw [aat h,Z (i+1) (by omega)]
   simp
  | false=>
   rw [J] at h
   rw [aai h]
   simp
theorem beqC {o:Type} [BEq o] [LawfulBEq o] (a b:o):(a==b)=(b==a):=by
 cases h:(a==b) with
 | true=>have:=eq_of_beq h;subst this;simp
 | false=>cases z:(b==a) with
  | false=>rfl
  | true=>have:=eq_of_beq z;subst this;simp at h
theorem a3v (a b:Bool):(bif a then true else b)=(a||b):=by cases a<;>rfl
theorem a05 {h:Type} (a:Bool) (x y:h):(bif a then some x else some y)=some (bif a then x else y):=by cases a<;>rfl
theorem aaz (i:Nat) (h:i<=1000000000000):IntKind.wrap .i64 ((i:Int)+1)=((i+1:Nat):Int):=by rw [show (i:Int)+1=((i+1:Nat):Int) by omega];exact aa9 (by omega)
end Go.Ab
