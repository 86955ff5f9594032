/- Plain laws: small tools. -/
import Derived.Test.YtodichgnoiaanaaGreatDoorAbLoop
import Derived.IntWalk
set_option linter.unusedVariables false
set_option linter.unusedSimpArgs false
set_option linter.unnecessarySimpa false
namespace Go.Ab
open Go
theorem bbk {n:Int} (h:-9223372036854775808<=n) (o:n<=9223372036854775807):IntKind.wrap .i64 n=n:=IntWalk.i64_in n ⟨h,o⟩
theorem abe {n:Nat} (h:n<=9223372036854775807):IntKind.wrap .i64 (n:Int)=(n:Int):=IntWalk.i64_in n ⟨by omega,by omega⟩
theorem aaa (i n:Nat):aab (i:Int) n=decide (i<n):=by grind [aab]
theorem aag {o:Type}{l:List o}{i:Nat}{d:o} (h:i<l.length):l.getD i d=l[i]:=by grind
theorem abg {o:Type}{l:List o}{i:Nat} (h:i<l.length) (d:o):l.drop i=l.getD i d::l.drop (i+1):=by grind [aag,List.drop_eq_getElem_cons]
theorem baj {h z o:Type} (f:h->o) (g:z->o) (a:h):sumE f g (.inl a)=f a:=rfl
theorem ana {z h o:Type} (f:z->o) (g:h->o) (b:h):sumE f g (.inr b)=g b:=rfl
end Go.Ab
namespace Go.Ab
open Go
def allF (p:Nat->Bool):Nat->Nat->Bool
 | _,0=>true
 | i,k+1=>p i&&allF p (i+1) k
theorem ayw (i n:Nat):decide ((i:Int)<(n:Int))=decide (i<n):=by grind
theorem aoc {H I:Type}{step:H->Option (H⊕I)} (st:Nat->H) (n:Nat) (p:Nat->Bool) (bad h:I) (z:∀ i,i<n->step (st i)=some (bif p i then .inl (st (i+1)) else .inr bad)) (o:step (st n)=some (.inr h)):
 ∀ k i,i+k=n->aa3 step (st i)=some (bif allF p i k then h else bad):=by
 intro k
 induction k with
 | zero=>
  intro i J
  have:i=n:=by omega
  subst this
  simp only [allF,Af]
  exact aai o
 | succ k M=>grind [allF,aao,aai]
theorem aue {o J:Type}{step:o->Option (o⊕J)} (m:o->Nat) (I:o->Prop) (Q:J->Prop) (h:∀ x,I x->(∃ z,step x=some (.inl z)/\I z/\m z<m x)\/∃ r,step x=some (.inr r)/\Q r) (x:o) (M:I x):∃ r,aa3 step x=some r/\Q r:=by
 suffices H:∀ n x,m x<=n->I x->∃ r,aa3 step x=some r/\Q r from H _ x (Nat.le_refl _) M
 intro n;induction n with
 | zero=>grind [aai]
 | succ n O=>grind [aao,aai]
theorem beqC {h:Type} [BEq h] [LawfulBEq h] (a b:h):(a==b)=(b==a):=by grind
theorem a2k (a b:Bool):(bif a then b else false)=(a&&b):=by cases a<;>rfl
theorem aye (a b:Bool):(bif a then true else b)=(a||b):=by cases a<;>rfl
theorem a7w {h:Type} (a:Bool) (x y:h):(bif a then some x else some y)=some (bif a then x else y):=by cases a<;>rfl
theorem aat (i:Nat) (h:i<=1000000000000):IntKind.wrap .i64 ((i:Int)+1)=((i+1:Nat):Int):=by rw [show (i:Int)+1=((i+1:Nat):Int) by omega];exact abe (by omega)
end Go.Ab
namespace Go.Ab
open Go
def fstI (p:Nat->Bool):Nat->Nat->Option Nat
 | _,0=>none
 | i,k+1=>bif p i then some i else fstI p (i+1) k
theorem akg {J M:Type}{step:J->Option (J⊕M)} (st:Nat->J) (n:Nat) (p:Nat->Bool) (H:Nat->M) (o:M)
 (I:∀ i,i<n->step (st i)=some (bif p i then .inr (H i) else .inl (st (i+1)))) (z:step (st n)=some (.inr o)):
 ∀ k i,i+k=n->aa3 step (st i)=some ((fstI p i k).elim o H):=by
 intro k
 induction k with
 | zero=>
  intro i O
  obtain rfl:i=n:=by omega
  exact aai z
 | succ k ih=>
  intro i O
  have h:=I i (by omega)
  unfold fstI
  cases Z:p i with
  | true=>grind [aai]
  | false=>rw [Z] at h;rw [aao h,Ah];grind
theorem a3d {p:Nat->Bool}:∀ {k i j:Nat},fstI p i k=some j->i<=j/\j<i+k/\p j=true:=by
 intro k;induction k with
 | zero=>intro i j h;cases h
 | succ k o=>intro i j h;unfold fstI at h;grind
theorem a3c {p:Nat->Bool}:∀ {k i:Nat},fstI p i k=none->∀ j,i<=j->j<i+k->p j=false:=by
 intro k;induction k with
 | zero=>grind
 | succ k H=>intro i h j o z;unfold fstI at h;grind
theorem agb {o H:Type}{step:o->Option (o⊕H)} (st:Nat->List PV->o) (xs:List PV) (g:PV->List PV) (h:List PV->H) (N:Nat)
 (I:∀ i acc,i<xs.length->acc.length+(g (xs.getD i .bad)).length<=N->step (st i acc)=some (.inl (st (i+1) (acc++g (xs.getD i .bad)))))
 (z:∀ acc,step (st xs.length acc)=some (.inr (h acc))):
 ∀ k i acc,i+k=xs.length->acc.length+((xs.drop i).flatMap g).length<=N->aa3 step (st i acc)=some (h (acc++(xs.drop i).flatMap g)):=by
 intro k
 induction k with
 | zero=>
  intro i acc M J
  obtain rfl:i=xs.length:=by omega
  grind [aai]
 | succ k O=>grind [List.drop_eq_getElem_cons,aag,List.length_append,aao,List.append_assoc]
theorem an1 {h:Type} (p:h->Bool):∀ l:List h,(l.flatMap λx=>bif p x then [x] else [])=l.filter p:=by
 intro l;induction l with
 | nil=>rfl
 | cons x r o=>grind
theorem al6 {l:List PV}{x:PV} (h:l.length<=100000000):decide (l.length+[x].length<=aae)=true:=Ag (by grind [aae])
theorem a0n {o z:Type}{step:o->Option (o⊕z)} (st:Nat->o) (n:Nat) (y:z) (h:∀ i,i<n->step (st i)=some (.inl (st (i+1)))) (H:step (st n)=some (.inr y)):aa3 step (st 0)=some y:=by
 have q:=akg st n (λ_=>false) (λ_=>y) y (λi I=>by rw [h i I];rfl) H n 0 (Nat.zero_add _);rw [q];cases J:fstI (λ_=>false) 0 n with
 | none=>rfl
 | some j=>grind
end Go.Ab
