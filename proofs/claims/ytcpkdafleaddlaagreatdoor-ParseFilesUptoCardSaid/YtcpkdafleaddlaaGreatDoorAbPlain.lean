/- Plain laws: small tools. -/
import Derived.Test.YtcpkdafleaddlaaGreatDoorAbLoop
import Derived.IntWalk
set_option linter.unusedVariables false
set_option linter.unusedSimpArgs false
set_option linter.unnecessarySimpa false
namespace Go.Ab
open Go
theorem abi {n:Int} (d:-9223372036854775808<=n) (m:n<=9223372036854775807):IntKind.wrap .i64 n=n:=IntWalk.i64_in n ⟨d,m⟩
theorem ago {n:Nat} (h:n<=9223372036854775807):IntKind.wrap .i64 (n:Int)=(n:Int):=IntWalk.i64_in n ⟨by omega,by omega⟩
theorem aab (i n:Nat):aaa (i:Int) n=decide (i<n):=by grind [aaa]
theorem aiu {m:Type}{l:List m}{i:Nat}{d:m} (h:i<l.length):l.getD i d=l[i]:=by grind
theorem aaj {m:Type}{l:List m}{i:Nat} (h:i<l.length) (d:m):l.drop i=l.getD i d::l.drop (i+1):=by grind [aiu,List.drop_eq_getElem_cons]
theorem ab0 {d o m:Type} (f:d->m) (g:o->m) (a:d):sumE f g (.inl a)=f a:=rfl
theorem aa7 {o d m:Type} (f:o->m) (g:d->m) (b:d):sumE f g (.inr b)=g b:=rfl
end Go.Ab
namespace Go.Ab
open Go
def allF (p:Nat->Bool):Nat->Nat->Bool
 | _,0=>true
 | i,k+1=>p i&&allF p (i+1) k
theorem ay5 (i n:Nat):decide ((i:Int)<(n:Int))=decide (i<n):=by grind
theorem ah5 {z H:Type}{step:z->Option (z⊕H)} (st:Nat->z) (n:Nat) (p:Nat->Bool) (bad d:H) (o:∀ i,i<n->step (st i)=some (bif p i then .inl (st (i+1)) else .inr bad)) (m:step (st n)=some (.inr d)):
 ∀ k i,i+k=n->aaz step (st i)=some (bif allF p i k then d else bad):=by
 intro k
 induction k with
 | zero=>
  intro i M
  have:i=n:=by omega
  subst this
  simp only [allF,Ad]
  exact aac m
 | succ k O=>grind [allF,aan,aac]
theorem a8i {d:Type} (a:Bool) (x y:d):(bif a then some x else some y)=some (bif a then x else y):=by cases a<;>rfl
end Go.Ab
