/- Plain laws: small tools. -/
import Derived.Test.YtjogoleiodbfdaaGreatDoorAbLoop
import Derived.IntWalk
set_option linter.unusedVariables false
set_option linter.unusedSimpArgs false
set_option linter.unnecessarySimpa false
namespace Go.Ab
open Go
theorem a7d {n:Int} (h:-9223372036854775808<=n) (o:n<=9223372036854775807):IntKind.wrap .i64 n=n:=IntWalk.i64_in n ⟨h,o⟩
theorem abb {n:Nat} (h:n<=9223372036854775807):IntKind.wrap .i64 (n:Int)=(n:Int):=IntWalk.i64_in n ⟨by omega,by omega⟩
theorem aab (i n:Nat):aaa (i:Int) n=decide (i<n):=by
 unfold aaa;by_cases h:i<n
 ·simp [h]
 ·simp [h]
theorem aae {o:Type}{l:List o}{i:Nat}{d:o} (h:i<l.length):l.getD i d=l[i]:=by simp [List.getD,h]
theorem aa8 {o:Type}{l:List o}{i:Nat} (h:i<l.length) (d:o):l.drop i=l.getD i d::l.drop (i+1):=by rw [aae h];exact List.drop_eq_getElem_cons h
theorem a6b {h β o:Type} (f:h->o) (g:β->o) (a:h):sumE f g (.inl a)=f a:=rfl
theorem aqt {o β h:Type} (f:o->h) (g:β->h) (b:β):sumE f g (.inr b)=g b:=rfl
end Go.Ab
namespace Go.Ab
open Go
def allF (p:Nat->Bool):Nat->Nat->Bool
 | _,0=>true
 | i,k+1=>p i&&allF p (i+1) k
theorem awk (i n:Nat):decide ((i:Int)<(n:Int))=decide (i<n):=by
 by_cases h:i<n
 ·simp [h]
 ·simp [h]
theorem ajm {J O:Type}{step:J->Option (J⊕O)} (st:Nat->J) (n:Nat) (p:Nat->Bool) (bad o:O) (H:∀ i,i<n->step (st i)=some (bif p i then .inl (st (i+1)) else .inr bad)) (I:step (st n)=some (.inr o)):
 ∀ k i,i+k=n->aa9 step (st i)=some (bif allF p i k then o else bad):=by
 intro k
 induction k with
 | zero=>
  intro i Z
  have:i=n:=by omega
  subst this
  simp only [allF,Af]
  exact aah I
 | succ k ih=>
  intro i Z
  have h:=H i (by omega)
  simp only [allF]
  cases M:p i with
  | true=>
   rw [M] at h
   rw [aaq h,ih (i+1) (by omega)]
   simp
  | false=>
   rw [M] at h
   rw [aah h]
   simp
theorem beqC {o:Type} [BEq o] [LawfulBEq o] (a b:o):(a==b)=(b==a):=by
 cases h:(a==b) with
 | true=>have:=eq_of_beq h;subst this;simp
 | false=>cases H:(b==a) with
  | false=>rfl
  | true=>have:=eq_of_beq H;subst this;simp at h
theorem a6p (a b:Bool):(bif a then true else b)=(a||b):=by cases a<;>rfl
theorem a3t {h:Type} (a:Bool) (x y:h):(bif a then some x else some y)=some (bif a then x else y):=by cases a<;>rfl
theorem aax (i:Nat) (h:i<=1000000000000):IntKind.wrap .i64 ((i:Int)+1)=((i+1:Nat):Int):=by rw [show (i:Int)+1=((i+1:Nat):Int) by omega];exact abb (by omega)
end Go.Ab
