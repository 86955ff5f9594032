/- slices.IndexFunc, ContainsFunc and EqualFunc at any function. -/
import Derived.Test.YtofplaamkkpciaaGreatDoorAbUtf
set_option linter.unusedVariables false
set_option linter.unusedSimpArgs false
set_option linter.unnecessarySimpa false
namespace Go.Ab
open Go
noncomputable section
def ixS{C:Type}(g:PV->C->Option (Bool×C))(x:List PV×Unit×Int×Int×C):Option ((List PV×Unit×Int×Int×C)⊕((Int×C)⊕C)):=
 bif decide (x.2.2.2.1<x.2.2.1)then bif aab x.2.2.2.1 x.1.length then(g (x.1.getD x.2.2.2.1.toNat .bad) x.2.2.2.2).bind λy=>bif y.1 then some (.inr (.inl (x.2.2.2.1,y.2)))else some (.inl (x.1,(),x.2.2.1,IntKind.wrap .i64 (x.2.2.2.1+1),y.2))else none else some (.inr (.inr x.2.2.2.2))
def ixF{C:Type}(g:PV->C->Option (Bool×C))(l:List PV)(c:C):Option (Int×C):=
 (aad 0 (ixS g) (l,(),(l.length:Int),(0:Int),c)).bind λz=>sumE (λy=>some (y.1,y.2)) (λy=>some ((-1:Int),y)) z
def cfF{C:Type}(g:PV->C->Option (Bool×C))(l:List PV)(c:C):Option (Bool×C):=(ixF g l c).bind λy=>some (decide (y.1>=(0:Int)),y.2)
def ixS0(g:PV->Option Bool)(x:List PV×Unit×Int×Int):Option ((List PV×Unit×Int×Int)⊕(Int⊕Unit)):=
 bif decide (x.2.2.2<x.2.2.1)then bif aab x.2.2.2 x.1.length then(g (x.1.getD x.2.2.2.toNat .bad)).bind λy=>bif y then some (.inr (.inl x.2.2.2))else some (.inl (x.1,(),x.2.2.1,IntKind.wrap .i64 (x.2.2.2+1)))else none else some (.inr (.inr ()))
def ixF0(g:PV->Option Bool)(l:List PV):Option Int:=
 (aad 0 (ixS0 g) (l,(),(l.length:Int),(0:Int))).bind λz=>sumE (λy=>some y) (λ_=>some (-1:Int)) z
def cfF0(g:PV->Option Bool)(l:List PV):Option Bool:=(ixF0 g l).bind λy=>some (decide (y>=(0:Int)))
def ixL(E:Nat)(v:SV)(bs:List BSh)(t:Shape)(r:List Shape)(g:PV->TyL (t::r)->Option (Bool×TyL (t::r))):LoopE:=
 ⟨3,⟨[0,1,7,8],bs,.slice E::.con v::.int .i64::.int .i64::t::r⟩,[(.ret,⟨[4],bs,.int .i64::t::r⟩),(.exit 0,⟨[],bs,t::r⟩)],ixS g⟩
def ixL0(E:Nat)(v:SV)(g:PV->Option Bool):LoopE:=
 ⟨3,⟨[0,1,7,8],[],[.slice E,.con v,.int .i64,.int .i64]⟩,[(.ret,⟨[4],[],[.int .i64]⟩),(.exit 0,⟨[],[],[]⟩)],ixS0 g⟩
def eqS(g:PV->PV->Option Bool)(x:List PV×Unit×List PV×Int×Int):Option ((List PV×Unit×List PV×Int×Int)⊕(Bool⊕Unit)):=
 bif decide (x.2.2.2.2<x.2.2.2.1)then bif aab x.2.2.2.2 x.2.2.1.length then bif aab x.2.2.2.2 x.1.length then(g (x.2.2.1.getD x.2.2.2.2.toNat .bad) (x.1.getD x.2.2.2.2.toNat .bad)).bind λy=>bif (!y)then some (.inr (.inl false))else some (.inl (x.1,(),x.2.2.1,x.2.2.2.1,IntKind.wrap .i64 (x.2.2.2.2+1)))else none else none else some (.inr (.inr ()))
def eqF(g:PV->PV->Option Bool)(a b:List PV):Option Bool:=
 bif ((a.length:Int) != (b.length:Int))then some false else(aad 0 (eqS g) (b,(),a,(a.length:Int),(0:Int))).bind λz=>sumE (λy=>some y) (λ_=>some true) z
def eqFL(E:Nat)(v:SV)(g:PV->PV->Option Bool):LoopE:=
 ⟨5,⟨[1,2,15,16,17],[],[.slice E,.con v,.slice E,.int .i64,.int .i64]⟩,[(.ret,⟨[6],[],[.bool]⟩),(.exit 0,⟨[],[],[]⟩)],eqS g⟩
variable{P:Program}
def ixK(f E:Nat)(v:SV)(bs:List BSh)(t:Shape)(r:List Shape)(g:PV->TyL (t::r)->Option (Bool×TyL (t::r)))(c:KC P)
 (J:(aaq (lp (abp (fnAt P f)) 0)).length=0:=by kernel_rfl) (M:(aaq (abp (fnAt P f))).length=1:=by kernel_rfl)
 (I:(Nat.ble bs.length (ixL E v bs t r g).H.bs.length&&npX bs.length (ixL E v bs t r g).X)=true:=by kernel_rfl)
 (o:ag4 (xcfg P f bs.length [c] [] false [ixL E v bs t r g]) (lp (abp (fnAt P f)) 0) (ixL E v bs t r g):=by intro x;kernel_rfl)
 (z:∀(R:Type)(e:Env)(st:List BX)(K:LEx->Env->List BX->Option R),(xcfg P f bs.length [c] [] false [ixL E v bs t r g]).lam R (aeg (lp (abp (fnAt P f)) 0)) e st K=((ixL E v bs t r g).H.dec P e st).bind λx=>(aad 0 (ixL E v bs t r g).step x).bind λy=>kX (ixL E v bs t r g).X y K:=by intro R e st K;kernel_rfl)
 (V:P.funcs[f]?=some (fnAt P f):=by kernel_rfl) (U:(fnAt P f).body=some (abp (fnAt P f)):=by kernel_rfl) (m:((fnAt P f).name== "runtime.NumGoroutine")=false:=by kernel_rfl)
 (O:∀x:(AFrame.mk 2 bs (.slice E::.con v::t::r)).ty,alg (xcfg P f bs.length [c] [] false [ixL E v bs t r g]) (fnAt P f) ((AFrame.mk 2 bs (.slice E::.con v::t::r)).args x) ((AFrame.mk 2 bs (.slice E::.con v::t::r)).st x) ((AFrame.mk 1 bs (.int .i64::t::r)).get P)=ixF g x.1 x.2.2:=by intro x;kernel_rfl)
 (G:∀x:(AFrame.mk 2 bs (.slice E::.con v::t::r)).ty,(Nat.ble ((AFrame.mk 2 bs (.slice E::.con v::t::r)).args x).length (fnAt P f).ntmps&&Nat.beq ((AFrame.mk 2 bs (.slice E::.con v::t::r)).st x).length bs.length&&Nat.ble ((AFrame.mk 2 bs (.slice E::.con v::t::r)).st x).length bs.length)=true:=by intro x;kernel_rfl):KC P:=
 xf f ⟨2,bs,.slice E::.con v::t::r⟩ ⟨1,bs,.int .i64::t::r⟩ (λx=>ixF g x.1 x.2.2) [c] [ixL E v bs t r g] (L1 (xl (ixL E v bs t r g) (L0 J) I o z) M) V U m O G
def ixK0(f E:Nat)(v:SV)(g:PV->Option Bool)(c:KC P)
 (I:(aaq (lp (abp (fnAt P f)) 0)).length=0:=by kernel_rfl) (J:(aaq (abp (fnAt P f))).length=1:=by kernel_rfl)
 (G:(Nat.ble 0 (ixL0 E v g).H.bs.length&&npX 0 (ixL0 E v g).X)=true:=by kernel_rfl)
 (o:ag4 (xcfg P f 0 [c] [] false [ixL0 E v g]) (lp (abp (fnAt P f)) 0) (ixL0 E v g):=by intro x;kernel_rfl)
 (t:∀(R:Type)(e:Env)(st:List BX)(K:LEx->Env->List BX->Option R),(xcfg P f 0 [c] [] false [ixL0 E v g]).lam R (aeg (lp (abp (fnAt P f)) 0)) e st K=((ixL0 E v g).H.dec P e st).bind λx=>(aad 0 (ixL0 E v g).step x).bind λy=>kX (ixL0 E v g).X y K:=by intro R e st K;kernel_rfl)
 (U:P.funcs[f]?=some (fnAt P f):=by kernel_rfl) (O:(fnAt P f).body=some (abp (fnAt P f)):=by kernel_rfl) (m:((fnAt P f).name== "runtime.NumGoroutine")=false:=by kernel_rfl)
 (M:∀x:(AFrame.mk 2 [] [.slice E,.con v]).ty,alg (xcfg P f 0 [c] [] false [ixL0 E v g]) (fnAt P f) ((AFrame.mk 2 [] [.slice E,.con v]).args x) ((AFrame.mk 2 [] [.slice E,.con v]).st x) ((AFrame.mk 1 [] [.int .i64]).get P)=ixF0 g x.1:=by intro x;kernel_rfl)
 (z:∀x:(AFrame.mk 2 [] [.slice E,.con v]).ty,(Nat.ble ((AFrame.mk 2 [] [.slice E,.con v]).args x).length (fnAt P f).ntmps&&Nat.beq ((AFrame.mk 2 [] [.slice E,.con v]).st x).length 0&&Nat.ble ((AFrame.mk 2 [] [.slice E,.con v]).st x).length 0)=true:=by intro x;kernel_rfl):KC P:=
 xf f ⟨2,[],[.slice E,.con v]⟩ ⟨1,[],[.int .i64]⟩ (λx=>ixF0 g x.1) [c] [ixL0 E v g] (L1 (xl (ixL0 E v g) (L0 I) G o t) J) U O m M z
def cfK(f E:Nat)(v:SV)(bs:List BSh)(t:Shape)(r:List Shape)(g:PV->TyL (t::r)->Option (Bool×TyL (t::r)))(c:KC P)
 (z:(aaq (abp (fnAt P f))).length=0:=by kernel_rfl) (I:P.funcs[f]?=some (fnAt P f):=by kernel_rfl) (H:(fnAt P f).body=some (abp (fnAt P f)):=by kernel_rfl) (m:((fnAt P f).name== "runtime.NumGoroutine")=false:=by kernel_rfl)
 (G:∀x:(AFrame.mk 2 bs (.slice E::.con v::t::r)).ty,alg (xcfg P f bs.length [c] [] false []) (fnAt P f) ((AFrame.mk 2 bs (.slice E::.con v::t::r)).args x) ((AFrame.mk 2 bs (.slice E::.con v::t::r)).st x) ((AFrame.mk 1 bs (.bool::t::r)).get P)=cfF g x.1 x.2.2:=by intro x;kernel_rfl)
 (o:∀x:(AFrame.mk 2 bs (.slice E::.con v::t::r)).ty,(Nat.ble ((AFrame.mk 2 bs (.slice E::.con v::t::r)).args x).length (fnAt P f).ntmps&&Nat.beq ((AFrame.mk 2 bs (.slice E::.con v::t::r)).st x).length bs.length&&Nat.ble ((AFrame.mk 2 bs (.slice E::.con v::t::r)).st x).length bs.length)=true:=by intro x;kernel_rfl):KC P:=
 xj f ⟨2,bs,.slice E::.con v::t::r⟩ ⟨1,bs,.bool::t::r⟩ (λx=>cfF g x.1 x.2.2) [c] z I H m G o
def cfK0(f E:Nat)(v:SV)(g:PV->Option Bool)(c:KC P)
 (t:(aaq (abp (fnAt P f))).length=0:=by kernel_rfl) (H:P.funcs[f]?=some (fnAt P f):=by kernel_rfl) (G:(fnAt P f).body=some (abp (fnAt P f)):=by kernel_rfl) (m:((fnAt P f).name== "runtime.NumGoroutine")=false:=by kernel_rfl)
 (z:∀x:(AFrame.mk 2 [] [.slice E,.con v]).ty,alg (xcfg P f 0 [c] [] false []) (fnAt P f) ((AFrame.mk 2 [] [.slice E,.con v]).args x) ((AFrame.mk 2 [] [.slice E,.con v]).st x) ((AFrame.mk 1 [] [.bool]).get P)=cfF0 g x.1:=by intro x;kernel_rfl)
 (o:∀x:(AFrame.mk 2 [] [.slice E,.con v]).ty,(Nat.ble ((AFrame.mk 2 [] [.slice E,.con v]).args x).length (fnAt P f).ntmps&&Nat.beq ((AFrame.mk 2 [] [.slice E,.con v]).st x).length 0&&Nat.ble ((AFrame.mk 2 [] [.slice E,.con v]).st x).length 0)=true:=by intro x;kernel_rfl):KC P:=
 xj f ⟨2,[],[.slice E,.con v]⟩ ⟨1,[],[.bool]⟩ (λx=>cfF0 g x.1) [c] t H G m z o
def eqK(f E:Nat)(v:SV)(g:PV->PV->Option Bool)(c:KC P)
 (I:(aaq (lp (abp (fnAt P f)) 0)).length=0:=by kernel_rfl) (J:(aaq (abp (fnAt P f))).length=1:=by kernel_rfl)
 (G:(Nat.ble 0 (eqFL E v g).H.bs.length&&npX 0 (eqFL E v g).X)=true:=by kernel_rfl)
 (o:ag4 (xcfg P f 0 [c] [] false [eqFL E v g]) (lp (abp (fnAt P f)) 0) (eqFL E v g):=by intro x;kernel_rfl)
 (t:∀(R:Type)(e:Env)(st:List BX)(K:LEx->Env->List BX->Option R),(xcfg P f 0 [c] [] false [eqFL E v g]).lam R (aeg (lp (abp (fnAt P f)) 0)) e st K=((eqFL E v g).H.dec P e st).bind λx=>(aad 0 (eqFL E v g).step x).bind λy=>kX (eqFL E v g).X y K:=by intro R e st K;kernel_rfl)
 (U:P.funcs[f]?=some (fnAt P f):=by kernel_rfl) (O:(fnAt P f).body=some (abp (fnAt P f)):=by kernel_rfl) (m:((fnAt P f).name== "runtime.NumGoroutine")=false:=by kernel_rfl)
 (M:∀x:(AFrame.mk 3 [] [.slice E,.slice E,.con v]).ty,alg (xcfg P f 0 [c] [] false [eqFL E v g]) (fnAt P f) ((AFrame.mk 3 [] [.slice E,.slice E,.con v]).args x) ((AFrame.mk 3 [] [.slice E,.slice E,.con v]).st x) ((AFrame.mk 1 [] [.bool]).get P)=eqF g x.1 x.2.1:=by intro x;kernel_rfl)
 (z:∀x:(AFrame.mk 3 [] [.slice E,.slice E,.con v]).ty,(Nat.ble ((AFrame.mk 3 [] [.slice E,.slice E,.con v]).args x).length (fnAt P f).ntmps&&Nat.beq ((AFrame.mk 3 [] [.slice E,.slice E,.con v]).st x).length 0&&Nat.ble ((AFrame.mk 3 [] [.slice E,.slice E,.con v]).st x).length 0)=true:=by intro x;kernel_rfl):KC P:=
 xf f ⟨3,[],[.slice E,.slice E,.con v]⟩ ⟨1,[],[.bool]⟩ (λx=>eqF g x.1 x.2.1) [c] [eqFL E v g] (L1 (xl (eqFL E v g) (L0 I) G o t) J) U O m M z
end
end Go.Ab
namespace Go.Ab
open Go
theorem bik(a b:List PV):((a.length:Int) != (b.length:Int))=!decide (a.length=b.length):=by grind
end Go.Ab
namespace Go.Ab
open Go
def idxI(p:PV->Bool)(l:List PV):Int:=(fstI (λi=>p (l.getD i .bad)) 0 l.length).elim (-1) λi=>((i:Nat):Int)
theorem a0a(p:Nat->Bool):∀(k i:Nat),(fstI p i k).isSome=!allF (λj=>!p j) i k:=by
 intro k;induction k with
 |zero=>intro i;rfl
 |succ k m=>grind[fstI,allF]
theorem a4m{α:Type}(f:α->Bool)(d:α):∀(xs m:List α),allF (λi=>f ((m++xs).getD i d)) m.length xs.length=xs.all f:=by
 intro xs;induction xs with
 |nil=>intro m;rfl
 |cons x r o=>
  intro m;have e:(m++x::r).getD m.length d=x:=by simp[List.getD]
  have:=o (m++[x]);simp only[Ak,Al,Am,Nat.zero_add,Aq,A2,Aw]at this;grind[List.length_cons,allF]
theorem aux(p:PV->Bool)(l:List PV):(fstI (λi=>p (l.getD i .bad)) 0 l.length).isSome=l.any p:=by rw[a0a];have:=a4m (λx=>!p x) PV.bad l [];grind
theorem aqa(p:PV->Bool)(l:List PV):decide (idxI p l>=(0:Int))=l.any p:=by
 rw[<-aux];unfold idxI;cases fstI (λi=>p (l.getD i .bad)) 0 l.length with
 |none=>rfl
 |some i=>grind
theorem ave{l:List PV}{i:Nat}(m:i<l.length):l.getD i .bad∈l:=by grind
theorem ajn{G H:Type}{step:G->Option (G⊕H)}(st:Nat->G)(l:List PV)(p:PV->Bool)(o m:H)
 (z:∀i,i<l.length->step (st i)=some (bif p (l.getD i .bad)then .inr o else .inl (st (i+1)))) (t:step (st l.length)=some (.inr m)):aap step (st 0)=some (bif l.any p then o else m):=by
 rw[aeh st l.length (λi=>p (l.getD i .bad)) (λ_=>o) m z t l.length 0 (Nat.zero_add _),<-aux]
 cases fstI (λi=>p (l.getD i .bad)) 0 l.length<;>rfl
section
variable{l:List PV}(hl:l.length<=1000000000000)
include hl
theorem bah{C:Type}{g:PV->C->Option (Bool×C)}{c:C}(q:PV->Bool)(h:∀x,x∈l->g x c=some (q x,c)):ixF g l c=some (idxI q l,c):=by
 have e:=aeh (step:=ixS g) (λi:Nat=>(l,(),((l.length:Nat):Int),((i:Nat):Int),c)) l.length (λi=>q (l.getD i .bad)) (λi=>Sum.inl (((i:Nat):Int),c)) (Sum.inr c) (λi m=>by simp only[ixS,ah0,aaa,m,decide_true,Ad,Ae,h _ (ave m),Aa,aal i (by omega)];grind) (by simp only[ixS,ah0,Nat.lt_irrefl,decide_false,Af]) l.length 0 (Nat.zero_add _)
 have o:aad 0 (ixS g) (l,(),((l.length:Nat):Int),(0:Int),c)=_:=e;unfold ixF;rw[o];unfold idxI;cases fstI (λi=>q (l.getD i .bad)) 0 l.length<;>rfl
theorem agb{C:Type}{g:PV->C->Option (Bool×C)}{c:C}(q:PV->Bool)(h:∀x,x∈l->g x c=some (q x,c)):cfF g l c=some (l.any q,c):=by unfold cfF;rw[bah hl q h,Aa,aqa]
theorem bh3{g:PV->Option Bool}(q:PV->Bool)(h:∀x,x∈l->g x=some (q x)):ixF0 g l=some (idxI q l):=by
 have e:=aeh (step:=ixS0 g) (λi:Nat=>(l,(),((l.length:Nat):Int),((i:Nat):Int))) l.length (λi=>q (l.getD i .bad)) (λi=>Sum.inl ((i:Nat):Int)) (Sum.inr ()) (λi m=>by simp only[ixS0,ah0,aaa,m,decide_true,Ad,Ae,h _ (ave m),Aa,aal i (by omega)];grind) (by simp only[ixS0,ah0,Nat.lt_irrefl,decide_false,Af]) l.length 0 (Nat.zero_add _)
 have o:aad 0 (ixS0 g) (l,(),((l.length:Nat):Int),(0:Int))=_:=e;unfold ixF0;rw[o];unfold idxI;cases fstI (λi=>q (l.getD i .bad)) 0 l.length<;>rfl
theorem bhe{g:PV->Option Bool}(q:PV->Bool)(h:∀x,x∈l->g x=some (q x)):cfF0 g l=some (l.any q):=by unfold cfF0;rw[bh3 hl q h,Aa,aqa]
theorem aee{C:Type}{g:PV->C->Option (Bool×C)}{c:C}(p:PV->Bool)(h:∀x,x∈l->g x c=some (!p x,c)):((cfF g l c).bind λy=>some (!y.1))=some (l.all p):=by rw[agb hl (λx=>!p x) h,Aa,List.all_eq_not_any_not]
end
end Go.Ab
namespace Go.Ab
open Go
abbrev prb(d:Bn)(num e:Int):PV:=PV.agg [PV.str d,PV.int num,PV.int e]
def pu(bad:Bool)(d:Bn)(m e:Int)(acc:List PV):Option (List PV):=bif bad then(bif decide (acc.length+[prb d m e].length<=accMax)then some (acc++[prb d m e])else none)else some acc
def pa(q acc:List PV):Option (List PV):=bif decide (acc.length+q.length<=accMax)then some (acc++q)else none
def ade(g:Nat->List PV->Option (List PV)):Nat->Nat->List PV->Option (List PV)
 |_,0,b=>some b
 |i,k+1,b=>(g i b).bind (ade g (i+1) k)
theorem mb{α m o:Type}(x:Option α)(f:α->m)(g:m->Option o):((x.map f).bind g)=x.bind λa=>g (f a):=by cases x<;>rfl
theorem bb{α m o:Type}(x:Option α)(f:α->Option m)(g:m->Option o):((x.bind f).bind g)=x.bind λa=>(f a).bind g:=by cases x<;>rfl
theorem ach{z H:Type}{step:z->Option (z⊕H)}(st:Nat->List PV->z)(n:Nat)(g:Nat->List PV->Option (List PV))(m:List PV->H)(t:∀i b,i<n->step (st i b)=(g i b).map λc=>.inl (st (i+1) c))(o:∀b,step (st n b)=some (.inr (m b)))(b:List PV):aap step (st 0 b)=(ade g 0 n b).map m:=by
 have G:∀k i b,i+k=n->aap step (st i b)=(ade g i k b).map m:=by
  intro k;induction k with
  |zero=>
   intro i b I;obtain rfl:i=n:=by omega
   exact aae (o b)
  |succ k J=>
   intro i b I;rw[alt,t i b (by omega)];unfold ade;cases g i b with
   |none=>rfl
   |some c=>grind
 grind
def Ext(n:Nat)(g:List PV->Option (List PV)):Prop:=∀acc,acc.length+n<=60000000000->∃q,g acc=some (acc++q)/\q.length<=n
theorem abi{bad:Bool}{d:Bn}{m e:Int}:Ext 1 (pu bad d m e):=by
 intro acc h;unfold pu;cases bad with
 |false=>simp_all
 |true=>exact⟨[prb d m e],by rw[Ah (show acc.length+[prb d m e].length<=accMax by simp[accMax];omega)];rfl,by simp⟩
theorem bj5{q:List PV}{n:Nat}(h:q.length<=n):Ext n (pa q):=λacc m=>⟨q,by grind[pa,decide_eq_true,accMax],h⟩
theorem aar{n m:Nat}{g h:List PV->Option (List PV)}(o:Ext n g)(t:Ext m h):Ext (n+m) λa=>(g a).bind h:=by intro acc J;obtain⟨q,z,G⟩:=o acc (by omega);obtain⟨r,H,I⟩:=t (acc++q) (by grind);grind
def sumN(c:Nat->Nat):Nat->Nat->Nat
 |_,0=>0
 |i,k+1=>c i+sumN c (i+1) k
theorem a7e(c:Nat):∀k i,sumN (λ_=>c) i k=c*k:=by
 intro k;induction k with
 |zero=>intro i;rfl
 |succ k m=>grind[sumN,Nat.mul_succ,Nat.add_comm]
theorem a2u{g:Nat->List PV->Option (List PV)}{c:Nat->Nat}:∀k i,(∀j,i<=j->j<i+k->Ext (c j) (g j))->Ext (sumN c i k) (ade g i k):=by
 intro k;induction k with
 |zero=>intro i _ acc _;exact⟨[],by simp[ade],by simp⟩
 |succ k m=>intro i h;exact aar (h i (Nat.le_refl _) (by omega)) (m (i+1) λj o t=>h j (by omega) (by omega))
theorem bdy{n m:Nat}{g:List PV->Option (List PV)}(h:Ext n g)(G:n<=m):Ext m g:=λacc z=>by obtain⟨q,o,t⟩:=h acc (by omega);grind
theorem auq{n:Nat}{g:List PV->Option (List PV)}(h:Ext n g)(m:n<=60000000000):∃q,g []=some q/\q.length<=n:=by obtain⟨q,o,t⟩:=h [] (by simpa using m);grind
end Go.Ab
namespace Go.Ab
open Go
inductive FinI(nd:Nat->List Nat):Nat->Prop where
 |mk (i:Nat) (h:∀k,k∈nd i->FinI nd k):FinI nd i
def updB(v:Nat->Bool)(t:Nat):Nat->Bool:=λj=>v j||j==t
def sw(nd:Nat->List Nat)(t:Nat->Nat)(v:Nat->Bool)(i:Nat):Nat->Bool:=bif (nd (t i)).all v then updB v (t i)else v
def swR(nd:Nat->List Nat)(t:Nat->Nat)(v:Nat->Bool):Nat->Nat->Bool
 |0=>v
 |n+1=>sw nd t (swR nd t v n) n
def swN(nd:Nat->List Nat)(t:Nat->Nat)(n:Nat):Nat->(Nat->Bool)->Nat->Bool
 |0,v=>v
 |k+1,v=>swN nd t n k (swR nd t v n)
section
variable{nd:Nat->List Nat}{t:Nat->Nat}{v w:Nat->Bool}{n:Nat}
theorem blo{i j:Nat}(h:v j=true):sw nd t v i j=true:=by unfold sw;grind[updB]
theorem bcj{j:Nat}(h:v j=true):∀m,swR nd t v m j=true
 |0=>h
 |m+1=>blo (bcj h m)
theorem bi9{j i:Nat}(h:swR nd t v i j=true):∀m,i<=m->swR nd t v m j=true:=by
 intro m;induction m with
 |zero=>grind
 |succ m o=>
  intro z;by_cases e:i=m+1
  ·subst e;exact h
  ·exact blo (o (by omega))
theorem bf5{i:Nat}(h:∀j,v j=true->FinI nd j):∀j,sw nd t v i j=true->FinI nd j:=by
 intro j m;unfold sw at m;cases o:(nd (t i)).all v with
 |false=>grind
 |true=>
  rw[o]at m;simp only[Ad,updB,A7,beq_iff_eq]at m;rcases m with m|rfl
  ·exact h j m
  ·exact⟨_,λk z=>h k (Bd.1 o k z)⟩
theorem arx(h:∀j,v j=true->FinI nd j):∀m j,swR nd t v m j=true->FinI nd j
 |0=>h
 |m+1=>bf5 (arx h m)
theorem ay1:∀(k:Nat)(v:Nat->Bool),(∀j,v j=true->FinI nd j)->∀j,swN nd t n k v j=true->FinI nd j
 |0,_,h=>h
 |k+1,_,h=>ay1 k _ (arx h n)
def afw(nd:Nat->List Nat)(t:Nat->Nat)(n:Nat)(v:Nat->Bool):Prop:=∀i,i<n->(nd (t i)).all v=true->v (t i)=true
theorem bck{i:Nat}(h:afw nd t n v)(o:i<n):sw nd t v i=v:=by
 unfold sw;cases m:(nd (t i)).all v with
 |false=>rfl
 |true=>have:=h i o m;funext j;simp only[Ad,updB];simp_all
theorem a7f(h:afw nd t n v):∀m,m<=n->swR nd t v m=v:=by
 intro m;induction m with
 |zero=>intro _;rfl
 |succ m o=>grind[swR,bck]
theorem at5(h:afw nd t n v):∀k,swN nd t n k v=v
 |0=>rfl
 |k+1=>by unfold swN;rw[a7f h n (Nat.le_refl _)];exact at5 h k
def cntB(v:Nat->Bool):Nat->Nat
 |0=>0
 |n+1=>cntB v n+bif v n then 1 else 0
theorem azs(v:Nat->Bool):∀n,cntB v n<=n
 |0=>Nat.le_refl _
 |n+1=>by have:=azs v n;grind[cntB]
theorem apq(h:∀j,v j=true->w j=true):∀n,cntB v n<=cntB w n
 |0=>Nat.le_refl _
 |n+1=>by have:=apq h n;grind[cntB]
theorem a8n(h:∀j,v j=true->w j=true):∀n,cntB w n<=cntB v n->∀j,j<n->w j=true->v j=true:=by
 intro n;induction n with
 |zero=>grind
 |succ n G=>intro e j o z;have m:=apq h n;grind[cntB]
theorem a4d(I:∀i,i<n->t i<n)(e:cntB (swR nd t v n) n<=cntB v n):afw nd t n v:=by
 intro i H m;have G:swR nd t v (i+1) (t i)=true:=by have z:(nd (t i)).all (swR nd t v i)=true:=Bd.2 λk o=>bcj (Bd.1 m k o) i;unfold swR sw;rw[z];simp[updB]
 grind[a8n,bcj,bi9]
theorem bi7(m:∀i,i<n->t i<n):∀(k:Nat)(v:Nat->Bool),afw nd t n (swN nd t n k v)\/cntB v n+k<=cntB (swN nd t n k v) n:=by
 intro k;induction k with
 |zero=>intro v;exact Or.inr (Nat.le_refl _)
 |succ k o=>intro v;by_cases e:cntB (swR nd t v n) n<=cntB v n;all_goals grind[a4d,at5,swR,swN]
theorem bi8(m:∀i,i<n->t i<n)(v:Nat->Bool):afw nd t n (swN nd t n (n+1) v):=by grind[bi7,azs,swN]
theorem azr(o:∀i,i<n->t i<n)(h:n<=cntB v n):afw nd t n v:=by
 intro i m _;exact a8n (w:=λ_=>true) (λ_ _=>rfl) n (by grind[azs]) (t i) (o i m) rfl
theorem aie(h:afw nd t n v)(G:∀i k,k∈nd i->k<n/\t k=k):∀j,FinI nd j->j<n->t j=j->v j=true:=by
 intro j m;induction m with
 |mk i _ H=>intro o z;have:=h i o (by grind);rwa[z]at this
end
end Go.Ab
