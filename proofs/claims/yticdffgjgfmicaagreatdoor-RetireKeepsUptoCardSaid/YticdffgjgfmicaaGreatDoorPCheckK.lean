/- Check, Print, Field, Type, Literal: the same in the program and the specification. -/
import Derived.Test.YticdffgjgfmicaaGreatDoorPFileK
set_option linter.unusedVariables false
set_option linter.unusedSimpArgs false
set_option linter.unnecessarySimpa false
namespace Go.Ab
open Go
set_option maxRecDepth 100000
theorem a7w{e:Int}{l:List PV}{t:Int}(h:errN e l t=0):e=0/\abz l t=0:=by grind[errN]
theorem a7v:∀(l:List PV)(e:Int),errL l e=0->e=0/\∀n,n∈l->abz (n.fld 0).asList (n.fld 1).asInt=0:=by
 intro l;induction l with
 |nil=>intro e h;exact⟨h,λn m=>by cases m⟩
 |cons n r o=>intro e h;obtain⟨t,z⟩:=o _ h;grind[a7w]
theorem a3m{l:List PV}{t:Int}(h:abz l t=0):l.length<=40:=by grind[abz]
theorem asx{f:PV}(h:afq f=0){n:PV}(m:n∈aef f):(n.fld 0).asList.length<=40:=by grind[awo,a3m,a7v]
theorem bh0{a b:Int}(m:a<=b){x:PV}(h:ahy a x=true):ahy b x=true:=by grind[ahy]
theorem bj6{x:PV}(h:OkFld x)(m:ajq x=true)(H:(x.fld 8).asList.length<=40):RowOk x:=by unfold ajq asz at m;simp only[Ai,Ax]at m;obtain⟨⟨⟨⟨o,t,z,G,_⟩,_⟩,_⟩,_⟩:=m;exact⟨h,o,t,z,G,H⟩
theorem azc{f:PV}(h:OkFile f)(M:aft f=true)(I:afq f=0)(O:afw f=true):FileOk f:=by
 unfold aft at M;unfold afw ao5 at O;simp only[Ai,Ax,Be]at M O;obtain⟨⟨U,V⟩,a3⟩:=M;obtain⟨⟨⟨⟨⟨⟨W,X⟩,Y⟩,Z⟩,c5⟩,c6⟩,c7⟩:=O;refine⟨h,W,X,λm G=>?_,Y,λm G=>?_,Z,λm G=>?_⟩
 ·have J:=h.msg m G;have z:=U m G;have o:=c5 m G;unfold ani at z;unfold ak4 at o;simp only[Ai,Ax,Be]at z o;have t:∀n,n∈an7 m->n∈aef f:=λn I=>by
   grind[aef,List.mem_append_left]
  refine⟨J,λx H=>bj6 (J.field x H) (z.1.1 x H) ?_,o.1.1,o.1.2,λx H=>bh0 (by decide) (z.2 x H),o.2,?_⟩
  ·exact asx (n:=nv (x.fld 8).asList 2) I (t _ (List.mem_cons_of_mem _ (List.mem_map.2 ⟨x,H,rfl⟩)))
  ·exact asx (n:=nv (m.fld 4).asList 1) I (t _ (List.mem_cons_self ..))
 ·have J:=h.enum m G;have z:=V m G;have o:=c6 m G;unfold aj8 at z;unfold ag5 at o;simp only[Ai,Ax,Be]at z o;have t:∀n,n∈aj0 m->n∈aef f:=λn I=>by
   grind[aef,List.mem_append_left,List.mem_append_right]
  refine⟨J,o.1,λx H=>?_,λx H=>?_,o.2,z.1,?_⟩
  ·grind[aj9]
  ·exact asx (n:=nv (x.fld 2).asList 4) I (t _ (List.mem_cons_of_mem _ (List.mem_map.2 ⟨x,H,rfl⟩)))
  ·exact asx (n:=nv (m.fld 4).asList 3) I (t _ (List.mem_cons_self ..))
 ·have J:=h.svc m G;have o:=c7 m G;unfold ao4 at o;simp only[Ax]at o;have t:∀n,n∈axe m->n∈aef f:=λn I=>by
   grind[aef,List.mem_append_right]
  refine⟨J,o,λx H=>?_,?_⟩
  ·exact asx (n:=nv (x.fld 4).asList 6) I (t _ (List.mem_cons_of_mem _ (List.mem_map.2 ⟨x,H,rfl⟩)))
  ·exact asx (n:=nv (m.fld 2).asList 5) I (t _ (List.mem_cons_self ..))
noncomputable def chkF(f:PV):Int:=
 bif !anv f then 8 else bif !aft f then 1 else bif !arc f then 7 else bif afq f != 0 then afq f else bif !afw f then 3 else bif decide (((an5 f).length:Int)>16384)then 3 else 0
theorem a4z(f:PV)(h:OkFile f):(aef f).length<=100000000:=by
 have z:=h.many;have e:∀(g:PV->List PV)(i:Nat),(∀m,(g m).length=(m.fld i).asList.length+1)->∀l:List PV,(l.flatMap g).length=abr l i:=by
  intro g i o l;induction l with
  |nil=>rfl
  |cons m r t=>rw[List.flatMap_cons,Ak,t,o];rfl
 grind[aef,List.length_append,an7,aj0,axe]
theorem bir(f:PV)(h:OkFile f):F111 f=some (chkF f):=by
 have q:=atu f (aef f) (a4z f h) (a9v f h) (aef f).length 0 (by omega);rw[Ar,awo]at q;unfold F111 chkF;simp only[bd3 f h,Aa,a5f f h,bfd f h,nl_eq f h,aas];rw[show(0:Int)=((0:Nat):Int)from rfl,q];cases anv f with
 |false=>rfl
 |true=>
  cases z:aft f with
  |false=>rfl
  |true=>
   cases arc f with
   |false=>rfl
   |true=>
    by_cases m:afq f=0
    ·simp only[m,An,Af,A1,Ad,Aa,abg,a7l f h];cases G:afw f with
     |false=>rfl
     |true=>simp only[An,Aq,Ad,Af,a2t f (azc h z m G),Aa];grind
    ·have o:(afq f==(0:Int))=false:=beqI m;have t:(afq f != (0:Int))=true:=bneI m;simp only[An,Af,o,t,Aa,a2q];grind
theorem ban(f:PV)(h:OkFile f):F138 f=some (chkF f):=by
 unfold F138 chkF;simp only[a0c f h,Aa,aqm f h,bgb _ h.imports h.importS,aas,au7 f h,bej f h,axp f h];cases anv f with
 |false=>rfl
 |true=>
  cases z:aft f with
  |false=>rfl
  |true=>
   have t:(txL (f.fld 2).asList&&(f.fld 3).asList.all bbq)=arc f:=rfl;simp only[t,An,Af];cases arc f with
   |false=>rfl
   |true=>
    by_cases m:afq f=0
    ·simp only[m,An,Af];cases G:afw f with
     |false=>rfl
     |true=>simp only[An,Aq,Ad,Af,aqu f (azc h z m G),Aa];show(bif decide (((an5 f).length:Int)>(16384:Int))then some (3:Int)else some 0)=some (bif decide (((an5 f).length:Int)>16384)then 3 else 0);cases decide (((an5 f).length:Int)>(16384:Int))<;>rfl
    ·have o:(afq f != (0:Int))=true:=bneI m;simp only[An,Af,o,Ad]
theorem a1c{f:PV}(h:OkFile f)(m:chkF f=0):FileOk f:=by
 unfold chkF at m;cases o:anv f<;>rw[o]at m
 ·cases m
 cases t:aft f<;>rw[t]at m
 ·cases m
 cases z:arc f<;>rw[z]at m
 ·cases m
 simp only[An,Af]at m;grind[afq,afw,azc]
theorem bef(f:PV)(h:OkFile f):F74 f=some (bif chkF f != 0 then[]else an5 f):=by
 unfold F74;rw[bir f h,Aa];by_cases m:chkF f=0
 ·grind[a2t,a1c]
 grind
theorem a0e(f:PV)(h:OkFile f):F88 f=some (bif chkF f != 0 then[]else an5 f):=by
 unfold F88;rw[ban f h,Aa];by_cases m:chkF f=0
 ·rw[m,aqu f (a1c h m)];rfl
 ·rw[bneI m];rfl
end Go.Ab
namespace Go.Ab
open Go
abbrev Ret{R:Type}(x:Option R)(G:R->Prop):Prop:=∃r,x=some r/\G r
theorem adq{A R:Type}{x:Option A}{K:A->Option R}{G:R->Prop}{P:A->Prop}(h:Ret x P)(k:∀y,x=some y->P y->Ret (K y) G):Ret (x.bind K) G:=by grind
theorem ajb{G H:Type}{step:G->Option (G⊕H)}(st:Nat->G)(n:Nat)(o:Nat->H)(m:H)(h:∀i,i<n->step (st i)=some (.inl (st (i+1)))\/step (st i)=some (.inr (o i)))(t:step (st n)=some (.inr m)):
 ∀k i,i+k=n->∃r,aan step (st i)=some r/\(r=m\/∃j,j<n/\r=o j):=by
 intro k
 induction k with
 |zero=>
  intro i I
  have:i=n:=by omega
  subst this
  exact⟨m,aae t,Or.inl rfl⟩
 |succ k J=>
  intro i I
  rcases h i (by omega)with z|z
  ·rw[aal z];exact J (i+1) (by omega)
  ·exact⟨o i,aae z,Or.inr ⟨i,by omega,rfl⟩⟩
theorem aom{R:Type}{c:Bool}{x y:Option R}{G:R->Prop}(m:Ret x G)(o:Ret y G):Ret (bif c then x else y) G:=by grind
theorem aep{R:Type}(r:R):Ret (some r) λ_=>True:=⟨r,rfl,trivial⟩
end Go.Ab
