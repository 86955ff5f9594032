/- Check, Print, Field, Type, Literal: the same in the program and the specification. -/
import Derived.Test.YtofplaamkkpciaaGreatDoorPFileR
set_option linter.unusedVariables false
set_option linter.unusedSimpArgs false
set_option linter.unnecessarySimpa false
namespace Go.Ab
open Go
set_option maxRecDepth 100000
theorem a9c{e:Int}{l:List PV}{t:Int}(h:errN e l t=0):e=0/\ab3 l t=0:=by grind[errN]
theorem a9b:∀(l:List PV)(e:Int),errL l e=0->e=0/\∀n,n∈l->ab3 (n.fld 0).asList (n.fld 1).asInt=0:=by
 intro l;induction l with
 |nil=>intro e h;exact⟨h,λn m=>by cases m⟩
 |cons n r o=>intro e h;obtain⟨t,z⟩:=o _ h;grind[a9c]
theorem a4w{l:List PV}{t:Int}(h:ab3 l t=0):l.length<=40:=by grind[ab3]
theorem ats{f:PV}(h:afv f=0){n:PV}(m:n∈aek f):(n.fld 0).asList.length<=40:=by grind[axf,a4w,a9b]
theorem bi6{a b:Int}(m:a<=b){x:PV}(h:ah3 a x=true):ah3 b x=true:=by grind[ah3]
theorem blj{x:PV}(h:OkFld x)(m:aj0 x=true)(H:(x.fld 8).asList.length<=40):RowOk x:=by unfold aj0 atu at m;simp only[Ai,Ax]at m;obtain⟨⟨⟨⟨o,t,z,G,_⟩,_⟩,_⟩,_⟩:=m;exact⟨h,o,t,z,G,H⟩
theorem az5{f:PV}(h:OkFile f)(M:afy f=true)(I:afv f=0)(O:af1 f=true):FileOk f:=by
 unfold afy at M;unfold af1 aps at O;simp only[Ai,Ax,Bd]at M O;obtain⟨⟨U,V⟩,a3⟩:=M;obtain⟨⟨⟨⟨⟨⟨W,X⟩,Y⟩,Z⟩,c5⟩,c6⟩,c7⟩:=O;refine⟨h,W,X,λm G=>?_,Y,λm G=>?_,Z,λm G=>?_⟩
 ·have J:=h.msg m G;have z:=U m G;have o:=c5 m G;unfold anx at z;unfold ald at o;simp only[Ai,Ax,Bd]at z o;have t:∀n,n∈aom m->n∈aek f:=λn I=>by
   grind[aek,List.mem_append_left]
  refine⟨J,λx H=>blj (J.field x H) (z.1.1 x H) ?_,o.1.1,o.1.2,λx H=>bi6 (by decide) (z.2 x H),o.2,?_⟩
  ·exact ats (n:=nv (x.fld 8).asList 2) I (t _ (List.mem_cons_of_mem _ (List.mem_map.2 ⟨x,H,rfl⟩)))
  ·exact ats (n:=nv (m.fld 4).asList 1) I (t _ (List.mem_cons_self ..))
 ·have J:=h.enum m G;have z:=V m G;have o:=c6 m G;unfold akg at z;unfold aha at o;simp only[Ai,Ax,Bd]at z o;have t:∀n,n∈aj9 m->n∈aek f:=λn I=>by
   grind[aek,List.mem_append_left,List.mem_append_right]
  refine⟨J,o.1,λx H=>?_,λx H=>?_,o.2,z.1,?_⟩
  ·grind[akh]
  ·exact ats (n:=nv (x.fld 2).asList 4) I (t _ (List.mem_cons_of_mem _ (List.mem_map.2 ⟨x,H,rfl⟩)))
  ·exact ats (n:=nv (m.fld 4).asList 3) I (t _ (List.mem_cons_self ..))
 ·have J:=h.svc m G;have o:=c7 m G;unfold apr at o;simp only[Ax]at o;have t:∀n,n∈ax3 m->n∈aek f:=λn I=>by
   grind[aek,List.mem_append_right]
  refine⟨J,o,λx H=>?_,?_⟩
  ·exact ats (n:=nv (x.fld 4).asList 6) I (t _ (List.mem_cons_of_mem _ (List.mem_map.2 ⟨x,H,rfl⟩)))
  ·exact ats (n:=nv (m.fld 2).asList 5) I (t _ (List.mem_cons_self ..))
noncomputable def chkF(f:PV):Int:=
 bif !aoa f then 8 else bif !afy f then 1 else bif !ar0 f then 7 else bif afv f != 0 then afv f else bif !af1 f then 3 else bif decide (((aok f).length:Int)>16384)then 3 else 0
theorem a6g(f:PV)(h:OkFile f):(aek f).length<=100000000:=by
 have z:=h.many;have e:∀(g:PV->List PV)(i:Nat),(∀m,(g m).length=(m.fld i).asList.length+1)->∀l:List PV,(l.flatMap g).length=abt l i:=by
  intro g i o l;induction l with
  |nil=>rfl
  |cons m r t=>rw[List.flatMap_cons,Ak,t,o];rfl
 grind[aek,List.length_append,aom,aj9,ax3]
theorem bjx(f:PV)(h:OkFile f):F139 f=some (chkF f):=by
 have q:=aui f (aek f) (a6g f h) (ba4 f h) (aek f).length 0 (by omega);rw[Ar,axf]at q;unfold F139 chkF;simp only[bez f h,Aa,a6k f h,bf7 f h,nl_eq f h,aat];rw[show(0:Int)=((0:Nat):Int)from rfl,q];cases aoa f with
 |false=>rfl
 |true=>
  cases z:afy f with
  |false=>rfl
  |true=>
   cases ar0 f with
   |false=>rfl
   |true=>
    by_cases m:afv f=0
    ·simp only[m,An,Af,Az,Ad,Aa,aa6,a8r f h];cases G:af1 f with
     |false=>rfl
     |true=>simp only[An,Ao,Ad,Af,a4e f (az5 h z m G),Aa];grind
    ·have o:(afv f==(0:Int))=false:=beqI m;have t:(afv f != (0:Int))=true:=bneI m;simp only[An,Af,o,t,Aa,a4b];grind
theorem bbm(f:PV)(h:OkFile f):F124 f=some (chkF f):=by
 unfold F124 chkF;simp only[a06 f h,Aa,aq7 f h,bg6 _ h.imports h.importS,aat,avx f h,bfg f h,ayf f h];cases aoa f with
 |false=>rfl
 |true=>
  cases z:afy f with
  |false=>rfl
  |true=>
   have t:(txL (f.fld 2).asList&&(f.fld 3).asList.all bcs)=ar0 f:=rfl;simp only[t,An,Af];cases ar0 f with
   |false=>rfl
   |true=>
    by_cases m:afv f=0
    ·simp only[m,An,Af];cases G:af1 f with
     |false=>rfl
     |true=>simp only[An,Ao,Ad,Af,arh f (az5 h z m G),Aa];show(bif decide (((aok f).length:Int)>(16384:Int))then some (3:Int)else some 0)=some (bif decide (((aok f).length:Int)>16384)then 3 else 0);cases decide (((aok f).length:Int)>(16384:Int))<;>rfl
    ·have o:(afv f != (0:Int))=true:=bneI m;simp only[An,Af,o,Ad]
theorem a2n{f:PV}(h:OkFile f)(m:chkF f=0):FileOk f:=by
 unfold chkF at m;cases o:aoa f<;>rw[o]at m
 ·cases m
 cases t:afy f<;>rw[t]at m
 ·cases m
 cases z:ar0 f<;>rw[z]at m
 ·cases m
 simp only[An,Af]at m;grind[afv,af1,az5]
theorem bfd(f:PV)(h:OkFile f):F96 f=some (bif chkF f != 0 then[]else aok f):=by
 unfold F96;rw[bjx f h,Aa];by_cases m:chkF f=0
 ·grind[a4e,a2n]
 grind
theorem a08(f:PV)(h:OkFile f):F90 f=some (bif chkF f != 0 then[]else aok f):=by
 unfold F90;rw[bbm f h,Aa];by_cases m:chkF f=0
 ·rw[m,arh f (a2n h m)];rfl
 ·rw[bneI m];rfl
end Go.Ab
namespace Go.Ab
open Go
abbrev Ret{R:Type}(x:Option R)(G:R->Prop):Prop:=∃r,x=some r/\G r
theorem adv{A R:Type}{x:Option A}{K:A->Option R}{G:R->Prop}{P:A->Prop}(h:Ret x P)(k:∀y,x=some y->P y->Ret (K y) G):Ret (x.bind K) G:=by grind
theorem atm{G H:Type}{step:G->Option (G⊕H)}(st:Nat->G)(n:Nat)(o:Nat->H)(m:H)(h:∀i,i<n->step (st i)=some (.inl (st (i+1)))\/step (st i)=some (.inr (o i)))(t:step (st n)=some (.inr m)):
 ∀k i,i+k=n->∃r,aap step (st i)=some r/\(r=m\/∃j,j<n/\r=o j):=by
 intro k
 induction k with
 |zero=>
  intro i I
  have:i=n:=by omega
  subst this
  exact⟨m,aae t,Or.inl rfl⟩
 |succ k J=>
  intro i I
  rcases h i (by omega)with z|z
  ·rw[aan z];exact J (i+1) (by omega)
  ·exact⟨o i,aae z,Or.inr ⟨i,by omega,rfl⟩⟩
theorem av0{R:Type}{c:Bool}{x y:Option R}{G:R->Prop}(m:Ret x G)(o:Ret y G):Ret (bif c then x else y) G:=by grind
theorem aju{R:Type}(r:R):Ret (some r) λ_=>True:=⟨r,rfl,trivial⟩
end Go.Ab
