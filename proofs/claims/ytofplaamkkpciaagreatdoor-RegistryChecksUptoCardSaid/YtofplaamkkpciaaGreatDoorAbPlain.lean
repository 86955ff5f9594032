/- Plain laws: small tools. -/
import Derived.Test.YtofplaamkkpciaaGreatDoorAbRun
import Derived.IntWalk
set_option linter.unusedVariables false
set_option linter.unusedSimpArgs false
set_option linter.unnecessarySimpa false
namespace Go.Ab
open Go
theorem a4g{n:Int}(m:-9223372036854775808<=n)(o:n<=9223372036854775807):IntKind.wrap .i64 n=n:=IntWalk.i64_in n ⟨m,o⟩
theorem abf{n:Nat}(h:n<=9223372036854775807):IntKind.wrap .i64 (n:Int)=(n:Int):=IntWalk.i64_in n ⟨by omega,by omega⟩
theorem aaa(i n:Nat):aab (i:Int) n=decide (i<n):=by grind[aab]
theorem abw{α:Type}{l:List α}{i:Nat}{d:α}(h:i<l.length):l.getD i d=l[i]:=by grind
theorem aa2{α:Type}{l:List α}{i:Nat}(h:i<l.length)(d:α):l.drop i=l.getD i d::l.drop (i+1):=by grind[abw,List.drop_eq_getElem_cons]
theorem a4b{α o m:Type}(f:α->m)(g:o->m)(a:α):sumE f g (.inl a)=f a:=rfl
theorem aa6{α m o:Type}(f:α->o)(g:m->o)(b:m):sumE f g (.inr b)=g b:=rfl
end Go.Ab
namespace Go.Ab
open Go
def allF(p:Nat->Bool):Nat->Nat->Bool
 |_,0=>true
 |i,k+1=>p i&&allF p (i+1) k
theorem ah0(i n:Nat):decide ((i:Int)<(n:Int))=decide (i<n):=by grind
theorem abb{z G:Type}{step:z->Option (z⊕G)}(st:Nat->z)(n:Nat)(p:Nat->Bool)(bad m:G)(t:∀i,i<n->step (st i)=some (bif p i then .inl (st (i+1))else .inr bad))(o:step (st n)=some (.inr m)):
 ∀k i,i+k=n->aap step (st i)=some (bif allF p i k then m else bad):=by
 intro k
 induction k with
 |zero=>
  intro i H
  have:i=n:=by omega
  subst this
  simp only[allF,Ad]
  exact aae o
 |succ k I=>grind[allF,aan,aae]
theorem baz{o z:Type}{step:o->Option (o⊕z)}(m:o->Nat)(I:o->Prop)(Q:z->Prop)(h:∀x,I x->(∃t,step x=some (.inl t)/\I t/\m t<m x)\/∃r,step x=some (.inr r)/\Q r)(x:o)(G:I x):∃r,aap step x=some r/\Q r:=by
 suffices H:∀n x,m x<=n->I x->∃r,aap step x=some r/\Q r from H _ x (Nat.le_refl _) G
 intro n;induction n with
 |zero=>grind[aae]
 |succ n J=>grind[aan,aae]
theorem beqC{α:Type}[BEq α][LawfulBEq α](a b:α):(a==b)=(b==a):=by grind
theorem ahb(a b:Bool):(bif a then b else false)=(a&&b):=by cases a<;>rfl
theorem atg(a b:Bool):(bif a then true else b)=(a||b):=by cases a<;>rfl
theorem aos{α:Type}(a:Bool)(x y:α):(bif a then some x else some y)=some (bif a then x else y):=by cases a<;>rfl
theorem aal(i:Nat)(h:i<=1000000000000):IntKind.wrap .i64 ((i:Int)+1)=((i+1:Nat):Int):=by rw[show(i:Int)+1=((i+1:Nat):Int) by omega];exact abf (by omega)
end Go.Ab
namespace Go.Ab
open Go
def fstI(p:Nat->Bool):Nat->Nat->Option Nat
 |_,0=>none
 |i,k+1=>bif p i then some i else fstI p (i+1) k
theorem aeh{G H:Type}{step:G->Option (G⊕H)}(st:Nat->G)(n:Nat)(p:Nat->Bool)(t:Nat->H)(m:H)
 (z:∀i,i<n->step (st i)=some (bif p i then .inr (t i)else .inl (st (i+1)))) (o:step (st n)=some (.inr m)):
 ∀k i,i+k=n->aap step (st i)=some ((fstI p i k).elim m t):=by
 intro k
 induction k with
 |zero=>
  intro i I
  obtain rfl:i=n:=by omega
  exact aae o
 |succ k M=>
  intro i I
  have h:=z i (by omega)
  unfold fstI
  cases J:p i with
  |true=>grind[aae]
  |false=>rw[J]at h;rw[aan h,Af];grind
theorem agj{p:Nat->Bool}:∀{k i j:Nat},fstI p i k=some j->i<=j/\j<i+k/\p j=true:=by
 intro k;induction k with
 |zero=>intro i j h;cases h
 |succ k m=>intro i j h;unfold fstI at h;grind
theorem a9o{p:Nat->Bool}:∀{k i:Nat},fstI p i k=none->∀j,i<=j->j<i+k->p j=false:=by
 intro k;induction k with
 |zero=>grind
 |succ k t=>intro i h j m o;unfold fstI at h;grind
theorem allG{p:Nat->Bool}:∀{k i:Nat},allF p i k=true->∀j,i<=j->j<i+k->p j=true:=by
 intro k;induction k with
 |zero=>grind
 |succ k t=>intro i h j m o;simp only[allF,Ai]at h;grind
theorem aqj{o z:Type}{step:o->Option (o⊕z)}(st:Nat->List PV->o)(xs:List PV)(g:PV->List PV)(m:List PV->z)(N:Nat)
 (G:∀i acc,i<xs.length->acc.length+(g (xs.getD i .bad)).length<=N->step (st i acc)=some (.inl (st (i+1) (acc++g (xs.getD i .bad)))))
 (t:∀acc,step (st xs.length acc)=some (.inr (m acc))):
 ∀k i acc,i+k=xs.length->acc.length+((xs.drop i).flatMap g).length<=N->aap step (st i acc)=some (m (acc++(xs.drop i).flatMap g)):=by
 intro k
 induction k with
 |zero=>
  intro i acc I H
  obtain rfl:i=xs.length:=by omega
  grind[aae]
 |succ k J=>grind[List.drop_eq_getElem_cons,abw,List.length_append,aan,List.append_assoc]
theorem axi{α m:Type}(g:α->m):∀l:List α,(l.flatMap λx=>[g x])=l.map g:=by
 intro l;induction l with
 |nil=>rfl
 |cons x r o=>grind
theorem a9k{α:Type}(p:α->Bool):∀l:List α,(l.flatMap λx=>bif p x then[x]else[])=l.filter p:=by
 intro l;induction l with
 |nil=>rfl
 |cons x r m=>grind
theorem ada{l:List PV}{x:PV}(h:l.length<=100000000):decide (l.length+[x].length<=accMax)=true:=Ah (by grind[accMax])
theorem abg{z G:Type}{step:z->Option (z⊕G)}(st:Nat->List PV->z)(xs:List PV)(g:PV->PV)(m:List PV->G)(J:xs.length<=10000000)
 (t:∀i c,i<xs.length->c.length<=100000000->step (st i c)=some (.inl (st (i+1) (c++[g (xs.getD i .bad)]))))
 (o:∀c,step (st xs.length c)=some (.inr (m c))):aap step (st 0 [])=some (m (xs.map g)):=by
 have h:=aqj st xs (λx=>[g x]) m 100000000 (λi c H I=>t i c H (by omega)) o xs.length 0 [] (Nat.zero_add _) (by rw[Ar,axi,List.length_map,Am];omega)
 grind[axi]
theorem axx{z G:Type}{step:z->Option (z⊕G)}(st:Nat->List PV->z)(xs:List PV)(p:PV->Bool)(m:List PV->G)(J:xs.length<=10000000)
 (t:∀i c,i<xs.length->c.length<=100000000->step (st i c)=some (.inl (st (i+1) (c++bif p (xs.getD i .bad)then[xs.getD i .bad]else[]))))
 (o:∀c,step (st xs.length c)=some (.inr (m c))):aap step (st 0 [])=some (m (xs.filter p)):=by
 have h:=aqj st xs (λx=>bif p x then[x]else[]) m 100000000 (λi c H I=>t i c H (by omega)) o xs.length 0 [] (Nat.zero_add _) (by have:=List.length_filter_le p xs;rw[Ar,a9k,Am];omega)
 grind[a9k]
theorem acm{m o:Type}{step:m->Option (m⊕o)}(st:Nat->m)(n:Nat)(y:o)(h:∀i,i<n->step (st i)=some (.inl (st (i+1))))(t:step (st n)=some (.inr y)):aap step (st 0)=some y:=by
 have q:=aeh st n (λ_=>false) (λ_=>y) y (λi z=>by rw[h i z];rfl) t n 0 (Nat.zero_add _);rw[q];cases G:fstI (λ_=>false) 0 n with
 |none=>rfl
 |some j=>grind
theorem aea{t z H:Type}{step:t->Option (t⊕z)}(st:Nat->t)(xs:List PV)(f:PV->Option H)(o:H->z)(m:z)
 (I:∀i,i<xs.length->step (st i)=some (match f (xs.getD i .bad)with|some y=>.inr (o y)|none=>.inl (st (i+1)))) (G:step (st xs.length)=some (.inr m)):
 ∀k i,i+k=xs.length->aap step (st i)=some (((xs.drop i).findSome? f).elim m o):=by
 intro k
 induction k with
 |zero=>
  intro i J
  obtain rfl:i=xs.length:=by omega
  grind[aae]
 |succ k M=>grind[List.drop_eq_getElem_cons,abw,aae,aan]
theorem acz{l:List PV}{i:Nat}(g:PV->PV)(h:i<l.length):(l.map g).getD i .bad=g (l.getD i .bad):=by rw[abw (by simpa using h),abw h,List.getElem_map]
end Go.Ab
