/- Plain laws: small tools. -/
import Derived.Test.YtcpkdafleaddlaaGreatDoorAbLoop
import Derived.IntWalk
set_option linter.unusedVariables false
set_option linter.unusedSimpArgs false
set_option linter.unnecessarySimpa false
namespace Go.Ab
open Go
theorem acs {n:Int} (d:-9223372036854775808<=n) (m:n<=9223372036854775807):IntKind.wrap .i64 n=n:=IntWalk.i64_in n ⟨d,m⟩
theorem ae0 {n:Nat} (h:n<=9223372036854775807):IntKind.wrap .i64 (n:Int)=(n:Int):=IntWalk.i64_in n ⟨by omega,by omega⟩
theorem aab (i n:Nat):aaa (i:Int) n=decide (i<n):=by grind [aaa]
theorem ag2 {m:Type}{l:List m}{i:Nat}{d:m} (h:i<l.length):l.getD i d=l[i]:=by grind
theorem aa1 {m:Type}{l:List m}{i:Nat} (h:i<l.length) (d:m):l.drop i=l.getD i d::l.drop (i+1):=by grind [ag2,List.drop_eq_getElem_cons]
theorem ab3 {d o m:Type} (f:d->m) (g:o->m) (a:d):sumE f g (.inl a)=f a:=rfl
theorem abg {o d m:Type} (f:o->m) (g:d->m) (b:d):sumE f g (.inr b)=g b:=rfl
end Go.Ab
namespace Go.Ab
open Go
def allF (p:Nat->Bool):Nat->Nat->Bool
 | _,0=>true
 | i,k+1=>p i&&allF p (i+1) k
theorem acr (i n:Nat):decide ((i:Int)<(n:Int))=decide (i<n):=by grind
theorem ajf {z H:Type}{step:z->Option (z⊕H)} (st:Nat->z) (n:Nat) (p:Nat->Bool) (bad d:H) (o:∀ i,i<n->step (st i)=some (bif p i then .inl (st (i+1)) else .inr bad)) (m:step (st n)=some (.inr d)):
 ∀ k i,i+k=n->aa9 step (st i)=some (bif allF p i k then d else bad):=by
 intro k
 induction k with
 | zero=>
  intro i M
  have:i=n:=by omega
  subst this
  simp only [allF,Ad]
  exact aae m
 | succ k O=>grind [allF,aba,aae]
theorem aec {z M:Type}{step:z->Option (z⊕M)} (st:Bool->Nat->z) (n:Nat) (p:Nat->Bool) (m:Bool->M) (d:∀ i,i<n->step (st true i)=some (.inl (st (p i) (i+1)))) (H:∀ i,step (st false i)=some (.inr (m false))) (o:step (st true n)=some (.inr (m true))):
 ∀ k i b,i+k=n->aa9 step (st b i)=some (m (b&&allF p i k)):=by
 intro k
 induction k with
 | zero=>
  intro i b O
  have:i=n:=by omega
  subst this
  cases b with
  | true=>simp only [allF,Bool.and_true];exact aae o
  | false=>simp only [Bool.false_and];grind [aae]
 | succ k U=>
  intro i b O
  cases b with
  | true=>
   rw [aba (d i (by omega)),U (i+1) _ (by omega)]
   simp only [allF,Bool.true_and]
  | false=>simp only [Bool.false_and];grind [aae]
theorem aex (a b:Bool):(bif a then b else false)=(a&&b):=by cases a<;>rfl
theorem bjh (a b:Bool):(bif a then true else b)=(a||b):=by cases a<;>rfl
theorem agd {d:Type} (a:Bool) (x y:d):(bif a then some x else some y)=some (bif a then x else y):=by cases a<;>rfl
theorem awu (i:Nat) (h:i<=1048576):IntKind.wrap .i64 ((i:Int)+1)=((i+1:Nat):Int):=by rw [show (i:Int)+1=((i+1:Nat):Int) by omega];exact ae0 (by omega)
end Go.Ab
