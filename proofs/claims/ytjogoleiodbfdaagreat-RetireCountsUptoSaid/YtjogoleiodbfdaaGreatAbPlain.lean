/- Plain laws: small tools. -/
import Derived.Test.YtjogoleiodbfdaaGreatAbLoop
import Derived.IntWalk
set_option linter.unusedVariables false
set_option linter.unusedSimpArgs false
set_option linter.unnecessarySimpa false
namespace Go.Ab
open Go
theorem am7 {n:Int} (h0:-9223372036854775808<=n) (h1:n<=9223372036854775807):IntKind.wrap .i64 n=n:=IntWalk.i64_in n ⟨h0,h1⟩
theorem ac2 {n:Nat} (h:n<=9223372036854775807):IntKind.wrap .i64 (n:Int)=(n:Int):=IntWalk.i64_in n ⟨by omega,by omega⟩
theorem aaa (i n:Nat):aab (i:Int) n=decide (i<n):=by
 unfold aab
 by_cases h:i<n
 ·simp [h]
 ·simp [h]
theorem aaf {α:Type}{l:List α}{i:Nat}{d:α} (h:i<l.length):l.getD i d=l[i]:=by simp [List.getD,h]
theorem adw {α:Type}{l:List α}{i:Nat} (h:i<l.length) (d:α):l.drop i=l.getD i d::l.drop (i+1):=by rw [aaf h];exact List.drop_eq_getElem_cons h
theorem ac5 {α β γ:Type} (f:α->γ) (g:β->γ) (b:β):sumE f g (.inr b)=g b:=rfl
end Go.Ab
namespace Go.Ab
open Go
def allF (p:Nat->Bool):Nat->Nat->Bool
 | _,0=>true
 | i,k+1=>p i&&allF p (i+1) k
theorem azy (i n:Nat):decide ((i:Int)<(n:Int))=decide (i<n):=by
 by_cases h:i<n
 ·simp [h]
 ·simp [h]
theorem ah7 {σ τ:Type}{step:σ->Option (σ⊕τ)} (st:Nat->σ) (n:Nat) (p:Nat->Bool) (bad good:τ) (hstep:∀ i,i<n->step (st i)=some (bif p i then .inl (st (i+1)) else .inr bad)) (hend:step (st n)=some (.inr good)):
 ∀ k i,i+k=n->abv step (st i)=some (bif allF p i k then good else bad):=by
 intro k
 induction k with
 | zero=>
  intro i hi
  have:i=n:=by omega
  subst this
  simp only [allF,cond_true]
  exact aai hend
 | succ k ih=>
  intro i hi
  have h:=hstep i (by omega)
  simp only [allF]
  cases hp:p i with
  | true=>
   rw [hp] at h
   rw [aav h,ih (i+1) (by omega)]
   simp
  | false=>
   rw [hp] at h
   rw [aai h]
   simp
theorem ayn {α:Type} (a:Bool) (x y:α):(bif a then some x else some y)=some (bif a then x else y):=by cases a<;>rfl
theorem aa5 (i:Nat) (h:i<=1000000000000):IntKind.wrap .i64 ((i:Int)+1)=((i+1:Nat):Int):=by
 rw [show (i:Int)+1=((i+1:Nat):Int) by omega];exact ac2 (by omega)
end Go.Ab
