/- Plain laws: small tools. -/
import Derived.Test.YtodichgnoiaanaaGreatAbLoop
import Derived.IntWalk
set_option linter.unusedVariables false
set_option linter.unusedSimpArgs false
set_option linter.unnecessarySimpa false
namespace Go.Ab
open Go
theorem a1p {n:Int} (h0:-9223372036854775808<=n) (h1:n<=9223372036854775807):IntKind.wrap .i64 n=n:=IntWalk.i64_in n ⟨h0,h1⟩
theorem ac7 {n:Nat} (h:n<=9223372036854775807):IntKind.wrap .i64 (n:Int)=(n:Int):=IntWalk.i64_in n ⟨by omega,by omega⟩
theorem aab (i n:Nat):aaa (i:Int) n=decide (i<n):=by
 unfold aaa
 by_cases h:i<n
 ·simp [h]
 ·simp [h]
theorem aav {α:Type}{l:List α}{i:Nat}{d:α} (h:i<l.length):l.getD i d=l[i]:=by simp [List.getD,h]
theorem aea {α:Type}{l:List α}{i:Nat} (h:i<l.length) (d:α):l.drop i=l.getD i d::l.drop (i+1):=by rw [aav h];exact List.drop_eq_getElem_cons h
theorem awc {α β γ:Type} (f:α->γ) (g:β->γ) (a:α):sumE f g (.inl a)=f a:=rfl
theorem ab0 {α β γ:Type} (f:α->γ) (g:β->γ) (b:β):sumE f g (.inr b)=g b:=rfl
end Go.Ab
namespace Go.Ab
open Go
def allF (p:Nat->Bool):Nat->Nat->Bool
 | _,0=>true
 | i,k+1=>p i&&allF p (i+1) k
theorem a4g (i n:Nat):decide ((i:Int)<(n:Int))=decide (i<n):=by
 by_cases h:i<n
 ·simp [h]
 ·simp [h]
theorem acr {σ τ:Type}{step:σ->Option (σ⊕τ)} (st:Nat->σ) (n:Nat) (p:Nat->Bool) (bad good:τ) (hstep:∀ i,i<n->step (st i)=some (bif p i then .inl (st (i+1)) else .inr bad)) (hend:step (st n)=some (.inr good)):
 ∀ k i,i+k=n->aay step (st i)=some (bif allF p i k then good else bad):=by
 intro k
 induction k with
 | zero=>
  intro i hi
  have:i=n:=by omega
  subst this
  simp only [allF,cond_true]
  exact aah hend
 | succ k ih=>
  intro i hi
  have h:=hstep i (by omega)
  simp only [allF]
  cases hp:p i with
  | true=>
   rw [hp] at h
   rw [aa0 h,ih (i+1) (by omega)]
   simp
  | false=>
   rw [hp] at h
   rw [aah h]
   simp
theorem a0c {σ τ:Type}{step:σ->Option (σ⊕τ)} (m:σ->Nat) (I:σ->Prop) (Q:τ->Prop) (h:∀ x,I x->(∃ x',step x=some (.inl x')/\I x'/\m x'<m x)∨∃ r,step x=some (.inr r)/\Q r) (x:σ) (hx:I x):∃ r,aay step x=some r/\Q r:=by
 suffices H:∀ n x,m x<=n->I x->∃ r,aay step x=some r/\Q r from H _ x (Nat.le_refl _) hx
 intro n
 induction n with
 | zero=>
  intro x hm hx
  rcases h x hx with ⟨x',_,_,h3⟩ | ⟨r,h1,h2⟩
  ·omega
  ·exact ⟨r,aah h1,h2⟩
 | succ n ih=>
  intro x hm hx
  rcases h x hx with ⟨x',h1,h2,h3⟩ | ⟨r,h1,h2⟩
  ·rw [aa0 h1];exact ih x' (by omega) h2
  ·exact ⟨r,aah h1,h2⟩
theorem beqC {α:Type} [BEq α] [LawfulBEq α] (a b:α):(a==b)=(b==a):=by
 cases h:(a==b) with
 | true=>have:=eq_of_beq h;subst this;simp
 | false=>cases h2:(b==a) with
  | false=>rfl
  | true=>have:=eq_of_beq h2;subst this;simp at h
theorem aj2 (a b:Bool):(bif a then b else false)=(a&&b):=by cases a<;>rfl
theorem ava (a b:Bool):(bif a then true else b)=(a||b):=by cases a<;>rfl
theorem a2c {α:Type} (a:Bool) (x y:α):(bif a then some x else some y)=some (bif a then x else y):=by cases a<;>rfl
theorem aa4 (i:Nat) (h:i<=1000000000000):IntKind.wrap .i64 ((i:Int)+1)=((i+1:Nat):Int):=by
 rw [show (i:Int)+1=((i+1:Nat):Int) by omega];exact ac7 (by omega)
end Go.Ab
