/- Plain laws: small tools. -/
import Derived.Test.YticdffgjgfmicaaGreatDoorAbRun
import Derived.IntWalk
set_option linter.unusedVariables false
set_option linter.unusedSimpArgs false
set_option linter.unnecessarySimpa false
namespace Go.Ab
open Go
theorem a2w{n:Int}(m:-9223372036854775808<=n)(o:n<=9223372036854775807):IntKind.wrap .i64 n=n:=IntWalk.i64_in n ⟨m,o⟩
theorem abd{n:Nat}(h:n<=9223372036854775807):IntKind.wrap .i64 (n:Int)=(n:Int):=IntWalk.i64_in n ⟨by omega,by omega⟩
theorem aaa(i n:Nat):aab (i:Int) n=decide (i<n):=by grind[aab]
theorem aa9{α:Type}{l:List α}{i:Nat}{d:α}(h:i<l.length):l.getD i d=l[i]:=by grind
theorem aa1{α:Type}{l:List α}{i:Nat}(h:i<l.length)(d:α):l.drop i=l.getD i d::l.drop (i+1):=by grind[aa9,List.drop_eq_getElem_cons]
theorem a2q{α o m:Type}(f:α->m)(g:o->m)(a:α):sumE f g (.inl a)=f a:=rfl
theorem abg{α m o:Type}(f:α->o)(g:m->o)(b:m):sumE f g (.inr b)=g b:=rfl
end Go.Ab
namespace Go.Ab
open Go
def allF(p:Nat->Bool):Nat->Nat->Bool
 |_,0=>true
 |i,k+1=>p i&&allF p (i+1) k
theorem ajw(i n:Nat):decide ((i:Int)<(n:Int))=decide (i<n):=by grind
theorem acj{z G:Type}{step:z->Option (z⊕G)}(st:Nat->z)(n:Nat)(p:Nat->Bool)(bad m:G)(t:∀i,i<n->step (st i)=some (bif p i then .inl (st (i+1))else .inr bad))(o:step (st n)=some (.inr m)):
 ∀k i,i+k=n->aan step (st i)=some (bif allF p i k then m else bad):=by
 intro k
 induction k with
 |zero=>
  intro i H
  have:i=n:=by omega
  subst this
  simp only[allF,Ad]
  exact aae o
 |succ k I=>grind[allF,aal,aae]
theorem aw8{o z:Type}{step:o->Option (o⊕z)}(m:o->Nat)(I:o->Prop)(Q:z->Prop)(h:∀x,I x->(∃t,step x=some (.inl t)/\I t/\m t<m x)\/∃r,step x=some (.inr r)/\Q r)(x:o)(G:I x):∃r,aan step x=some r/\Q r:=by
 suffices H:∀n x,m x<=n->I x->∃r,aan step x=some r/\Q r from H _ x (Nat.le_refl _) G
 intro n;induction n with
 |zero=>grind[aae]
 |succ n J=>grind[aal,aae]
theorem beqC{α:Type}[BEq α][LawfulBEq α](a b:α):(a==b)=(b==a):=by grind
theorem ag6(a b:Bool):(bif a then b else false)=(a&&b):=by cases a<;>rfl
theorem aso(a b:Bool):(bif a then true else b)=(a||b):=by cases a<;>rfl
theorem aoc{α:Type}(a:Bool)(x y:α):(bif a then some x else some y)=some (bif a then x else y):=by cases a<;>rfl
theorem aao(i:Nat)(h:i<=1000000000000):IntKind.wrap .i64 ((i:Int)+1)=((i+1:Nat):Int):=by rw[show(i:Int)+1=((i+1:Nat):Int) by omega];exact abd (by omega)
end Go.Ab
namespace Go.Ab
open Go
def fstI(p:Nat->Bool):Nat->Nat->Option Nat
 |_,0=>none
 |i,k+1=>bif p i then some i else fstI p (i+1) k
theorem ade{G H:Type}{step:G->Option (G⊕H)}(st:Nat->G)(n:Nat)(p:Nat->Bool)(t:Nat->H)(m:H)
 (z:∀i,i<n->step (st i)=some (bif p i then .inr (t i)else .inl (st (i+1)))) (o:step (st n)=some (.inr m)):
 ∀k i,i+k=n->aan step (st i)=some ((fstI p i k).elim m t):=by
 intro k
 induction k with
 |zero=>
  intro i I
  obtain rfl:i=n:=by omega
  exact aae o
 |succ k M=>
  intro i I
  have h:=z i (by omega)
  unfold fstI
  cases J:p i with
  |true=>grind[aae]
  |false=>rw[J]at h;rw[aal h,Af];grind
theorem aea{p:Nat->Bool}:∀{k i j:Nat},fstI p i k=some j->i<=j/\j<i+k/\p j=true:=by
 intro k;induction k with
 |zero=>intro i j h;cases h
 |succ k m=>intro i j h;unfold fstI at h;grind
theorem a8i{p:Nat->Bool}:∀{k i:Nat},fstI p i k=none->∀j,i<=j->j<i+k->p j=false:=by
 intro k;induction k with
 |zero=>grind
 |succ k t=>intro i h j m o;unfold fstI at h;grind
theorem allG{p:Nat->Bool}:∀{k i:Nat},allF p i k=true->∀j,i<=j->j<i+k->p j=true:=by
 intro k;induction k with
 |zero=>grind
 |succ k t=>intro i h j m o;simp only[allF,Ai]at h;grind
theorem apy{o z:Type}{step:o->Option (o⊕z)}(st:Nat->List PV->o)(xs:List PV)(g:PV->List PV)(m:List PV->z)(N:Nat)
 (G:∀i acc,i<xs.length->acc.length+(g (xs.getD i .bad)).length<=N->step (st i acc)=some (.inl (st (i+1) (acc++g (xs.getD i .bad)))))
 (t:∀acc,step (st xs.length acc)=some (.inr (m acc))):
 ∀k i acc,i+k=xs.length->acc.length+((xs.drop i).flatMap g).length<=N->aan step (st i acc)=some (m (acc++(xs.drop i).flatMap g)):=by
 intro k
 induction k with
 |zero=>
  intro i acc I H
  obtain rfl:i=xs.length:=by omega
  grind[aae]
 |succ k J=>grind[List.drop_eq_getElem_cons,aa9,List.length_append,aal,List.append_assoc]
theorem awr{α m:Type}(g:α->m):∀l:List α,(l.flatMap λx=>[g x])=l.map g:=by
 intro l;induction l with
 |nil=>rfl
 |cons x r o=>grind
theorem a8e{α:Type}(p:α->Bool):∀l:List α,(l.flatMap λx=>bif p x then[x]else[])=l.filter p:=by
 intro l;induction l with
 |nil=>rfl
 |cons x r m=>grind
theorem ac7{l:List PV}{x:PV}(h:l.length<=100000000):decide (l.length+[x].length<=accMax)=true:=Ah (by grind[accMax])
theorem abe{z G:Type}{step:z->Option (z⊕G)}(st:Nat->List PV->z)(xs:List PV)(g:PV->PV)(m:List PV->G)(J:xs.length<=10000000)
 (t:∀i c,i<xs.length->c.length<=100000000->step (st i c)=some (.inl (st (i+1) (c++[g (xs.getD i .bad)]))))
 (o:∀c,step (st xs.length c)=some (.inr (m c))):aan step (st 0 [])=some (m (xs.map g)):=by
 have h:=apy st xs (λx=>[g x]) m 100000000 (λi c H I=>t i c H (by omega)) o xs.length 0 [] (Nat.zero_add _) (by rw[Ar,awr,List.length_map,Am];omega)
 grind[awr]
theorem aw7{z G:Type}{step:z->Option (z⊕G)}(st:Nat->List PV->z)(xs:List PV)(p:PV->Bool)(m:List PV->G)(J:xs.length<=10000000)
 (t:∀i c,i<xs.length->c.length<=100000000->step (st i c)=some (.inl (st (i+1) (c++bif p (xs.getD i .bad)then[xs.getD i .bad]else[]))))
 (o:∀c,step (st xs.length c)=some (.inr (m c))):aan step (st 0 [])=some (m (xs.filter p)):=by
 have h:=apy st xs (λx=>bif p x then[x]else[]) m 100000000 (λi c H I=>t i c H (by omega)) o xs.length 0 [] (Nat.zero_add _) (by have:=List.length_filter_le p xs;rw[Ar,a8e,Am];omega)
 grind[a8e]
theorem ack{m o:Type}{step:m->Option (m⊕o)}(st:Nat->m)(n:Nat)(y:o)(h:∀i,i<n->step (st i)=some (.inl (st (i+1))))(t:step (st n)=some (.inr y)):aan step (st 0)=some y:=by
 have q:=ade st n (λ_=>false) (λ_=>y) y (λi z=>by rw[h i z];rfl) t n 0 (Nat.zero_add _);rw[q];cases G:fstI (λ_=>false) 0 n with
 |none=>rfl
 |some j=>grind
theorem ae9{t z H:Type}{step:t->Option (t⊕z)}(st:Nat->t)(xs:List PV)(f:PV->Option H)(o:H->z)(m:z)
 (I:∀i,i<xs.length->step (st i)=some (match f (xs.getD i .bad)with|some y=>.inr (o y)|none=>.inl (st (i+1)))) (G:step (st xs.length)=some (.inr m)):
 ∀k i,i+k=xs.length->aan step (st i)=some (((xs.drop i).findSome? f).elim m o):=by
 intro k
 induction k with
 |zero=>
  intro i J
  obtain rfl:i=xs.length:=by omega
  grind[aae]
 |succ k M=>grind[List.drop_eq_getElem_cons,aa9,aae,aal]
theorem ahd{l:List PV}{i:Nat}(g:PV->PV)(h:i<l.length):(l.map g).getD i .bad=g (l.getD i .bad):=by rw[aa9 (by simpa using h),aa9 h,List.getElem_map]
end Go.Ab
