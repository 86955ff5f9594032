/- Loops by steps, calls by entries. -/
import Derived.Test.YtofplaamkkpciaaGreatDoorAbCode
import Derived.KernelRfl
set_option linter.unusedVariables false
set_option linter.unusedSimpArgs false
set_option linter.unnecessarySimpa false
namespace Go.Ab
open Go
section
variable{Γ:Ctx}{D:Dom}{ow:Own}{μ:Nat->Nat}{st st':List BX}{bs:List BSh}{w:World}{P:Program}
theorem alq{s:SV}{v:Value}(f:StFit P st bs bs st st')(h:SRep P D w ow μ st s v)(m:am6 bs s=true):SRep P D w (owTo ow bs.length) μ st' s v:=by
 unfold am6 at m;split at m
 ·rename_i k p T;unfold bjq at m;split at m
  ·rename_i J p' o;obtain⟨s,vs,H,V,I,z,G,M⟩:=f.box _ _ _ o;cases h with
   |ref t O=>rw[z]at t;cases t;exact .ref M O
  ·cases m
 ·rename_i k;unfold bkr at m;split at m
  ·rename_i K E o;obtain⟨es,z,G⟩:=f.map _ _ _ o;cases h with
   |mref t=>rw[z]at t;cases t;exact .mref G
  ·cases m
 ·rename_i k;unfold bkt at m;split at m
  ·rename_i K E o;obtain⟨es,z,G⟩:=f.mit _ _ _ o;cases h with
   |mitr t=>exact .mitr z
  ·cases m
 ·rename_i k;unfold bgq at m;split at m
  ·rename_i o;obtain⟨U,p0,z,G⟩:=f.iter _ o;cases h with
   |iref t=>exact .iref G
  ·cases m
 ·rename_i k T;unfold bjo at m;split at m
  ·rename_i J o;obtain⟨U,z,G⟩:=f.bld _ _ o;cases h with
   |bref t=>exact .bref G
  ·cases m
 ·cases h;exact .nils
 ·cases m
theorem as8{k m:Nat}{E:TypeId}(h:as7 bs k m E=true):bs[k]?=some (.arr E m)/\k<bs.length:=by
 unfold as7 at h;split at h
 ·rename_i t o z;simp only[Ai]at h;grind[Nat.eq_of_beq_eq_true,List.getElem?_eq_some_iff]
 ·cases h
theorem axz{k V g z:Nat}{E m:TypeId}{v:Value}(f:StFit P st bs bs st st')(h:SRep P D w ow μ st (.arr V g m) v)(M:(Nat.beq k V&&Nat.beq E m&&afz st k g&&as7 bs k z E)=true):SRep P D w (owTo ow bs.length) μ st' (.arr k z E) v:=by
 simp only[Ai]at M;obtain⟨⟨⟨X,Y⟩,h3⟩,Z⟩:=M;have:=Ag X;subst this;have:=Ag Y;subst this;obtain⟨G,H⟩:=as8 Z;obtain⟨xs,W,q2⟩:=f.arr k E z G;have O:∀{m:TypeId}{o:Nat}{ys:List PV},st[k]?=some (.arr m o ys)->g=o:=by grind[afz,Nat.eq_of_beq_eq_true]
 have U:∀{m:TypeId}{o:Nat}{ys:List PV},st[k]?=some (.arr m o ys)->ys=xs:=by grind
 cases h with
 |arrOld t aa=>grind
 |arrNil t=>have:=U t;subst this;exact .arrNil W
 |arr t I J hc ho hs=>have:=U t;subst this;exact .arr W I J hc (owTo_some.2 ⟨ho,H⟩) hs
theorem adq{sh:Shape}{s Y:SV}{v:Value}(f:StFit P st bs bs st st')(h:SRep P D w ow μ st s v)(m:alu P st bs sh s=some Y):SRep P D w (owTo ow bs.length) μ st' Y v:=by
 have z:∀k,bc3 bs k=true->bs[k]?=some .acc/\k<bs.length:=by grind[bc3,List.getElem?_eq_some_iff]
 unfold alu at m;split at m
 ·rename_i k E;split at m
  ·rename_i k' g Z xs;obtain⟨o,rfl⟩:=aaz m;simp only[Ai]at o;obtain⟨⟨⟨J,X⟩,h3⟩,h4⟩:=o;have:=Ag J;subst this;have:=Ag X;subst this;obtain⟨t,G⟩:=z _ h4;cases h with
   |@acc _ _ g0 _ _ _ hr hk hg O=>
    refine .acc hr (f.acc _ t).1 (Nat.le_refl _) (λ_=>?_);have M:g=g0:=by grind[apb,Nat.eq_of_beq_eq_true]
    rcases O M with O|⟨b,off,cap,I,V,H,W,q4,q5,q6,q7⟩
    ·exact Or.inl O
    ·exact Or.inr ⟨b,off,cap,I,V,H,W,q4,q5,owTo_some.2 ⟨q6,G⟩,q7⟩
  ·obtain⟨o,rfl⟩:=aaz m;obtain⟨t,G⟩:=z _ o;cases h;exact .acc (.nil λ_=>rfl) (f.acc _ t).1 (Nat.le_refl _) (λ_=>Or.inl ⟨_,rfl⟩)
  ·cases m
 ·split at m
  ·cases m;cases h;exact .slice (.nil λ_=>rfl)
  ·exact ace h m _ _ _
 ·split at m
  ·rename_i k fl E;split at m
   ·rename_i k' g Z;obtain⟨o,rfl⟩:=aaz m;grind[axz]
   ·obtain⟨o,rfl⟩:=aaz m;simp only[Ai]at o;obtain⟨t,G⟩:=as8 o.1;obtain⟨xs,V,H⟩:=f.arr k E fl t;have aa:=At o.2;rcases H with⟨g1,H,_⟩|⟨_,W⟩
    ·grind
    ·subst W;cases h;exact .arrNil V
   ·cases m
  ·split at m
   ·obtain⟨o,rfl⟩:=aaz m;rw[Ai]at o;have:=Ag o.1;subst this;cases h with
    |ifc h=>exact .ifc (axz f h o.2)
   ·cases m
  ·obtain⟨o,rfl⟩:=aaz m;unfold au6 at o;split at o
   ·rename_i fn n cs;cases h with
    |fn h0 J X=>refine .fn h0 J (λi s v hi hv=>?_);grind[alq,List.all_eq_true,List.mem_of_getElem?]
   grind[alq]
 ·split at m
  ·rename_i T x;split at m
   ·rename_i y U;cases m;cases h with
    |ifc h=>exact .ifc (ace h U _ _ _)
   ·cases m
  ·cases m
 ·split at m
  ·cases m;cases h with
   |ifc h=>cases h;exact .ifc (.slice (.nil λ_=>rfl))
  ·split at m
   ·rename_i y U;cases m;cases h with
    |ifc h=>exact .ifc (ace h U _ _ _)
   ·cases m
  ·cases m
 ·exact ace h m _ _ _
theorem ba0{m:Shape}{s:SV}:alu P st bs m (.pan s)=none:=by
 cases m with
 |con c=>cases c<;>simp[alu,au6,am6];grind
 |_=>simp[alu,canon]
mutual
theorem an6(f:StFit P st bs bs st st'):∀(p:Pat)(s:SV)(t:List Shape)(vs:List SV)(o:List Shape)(m:List SV)(v:Value),ahz P st bs p s t=some (vs,o)->SRep P D w ow μ st s v->SRep P D w (owTo ow bs.length) μ st' (p.build (vs++m)).1 v
 |.leaf,s,sh::t,vs,o,m,v,h,z=>by
  simp only[ahz]at h;split at h
  ·rename_i x H;simp only[Aj,Prod.mk.injEq]at h;obtain⟨rfl,rfl⟩:=h;exact adq f z H
  ·cases h
 |.leaf,s,[],vs,o,m,v,h,z=>by simp[ahz]at h
 |.agg T ps,s,t,vs,o,m,v,h,z=>by
  simp only[ahz]at h;split at h
  ·rename_i I M;have G:=am3 z M;obtain⟨X,Y⟩:=alw f ps I t vs o m h;cases G with
   |agg J U V hv Z=>refine .agg J U V (by grind) (λi x W H O=>?_);grind
  ·cases h
theorem alw(f:StFit P st bs bs st st'):∀(ps:List Pat)(ss:List SV)(t:List Shape)(vs:List SV)(o:List Shape)(m:List SV),aff P st bs ps ss t=some (vs,o)->
 (aj2 ps (vs++m)).1.length=ss.length/\∀(i:Nat)(x:SV)(u:Value),(aj2 ps (vs++m)).1[i]?=some x->(∀y,ss[i]?=some y->SRep P D w ow μ st y u)->SRep P D w (owTo ow bs.length) μ st' x u
 |[],[],t,vs,o,m,h=>by refine⟨rfl,λi x u H=>?_⟩;simp[aj2]at H
 |[],_::_,t,vs,o,m,h=>by simp[aff]at h
 |_::_,[],t,vs,o,m,h=>by simp[aff]at h
 |p::ps,s::ss,t,vs,o,m,h=>by
  simp only[aff]at h;split at h
  ·rename_i G z J;split at h
   ·rename_i I M O;simp only[Aj,Prod.mk.injEq]at h;obtain⟨rfl,rfl⟩:=h;have U:=aip p s t G z (I++m) J;obtain⟨l1,l2⟩:=alw f ps ss z I _ m O;simp only[aj2,Aq];rw[U];refine⟨by simp[l1],λi x u H V=>?_⟩;cases i with
    |zero=>simp at H;subst H;exact an6 f p s t G z (I++m) u J (V s (by simp))
    |succ i=>grind
   ·cases h
  ·cases h
end
theorem StFit.kind(f:StFit P st bs bs st st'){k:Nat}{b:BX}(z:st'[k]?=some b):(∃H,st[k]?=some H/\b.kind=H.kind)\/(st.length<=k):=by
 have G:k<bs.length:=by rw[<-f.len];grind
 have t:bs[k]?=some bs[k]:=Ap G;generalize bs[k]=c at t;cases c with
 |acc=>
  obtain⟨o,m⟩:=f.acc k t;rw[z]at o;cases o;rcases m with⟨g,m⟩|m
  ·exact Or.inl ⟨_,m,rfl⟩
  grind
 |box T p=>obtain⟨s,vs,J,U,M,o,m,I⟩:=f.box k T p t;rw[z]at I;cases I;exact Or.inl ⟨_,o,rfl⟩
 |map K E=>obtain⟨es,o,m⟩:=f.map k K E t;grind
 |mit K E=>obtain⟨es,o,c,m⟩:=f.mit k K E t;rw[z]at o;cases o;exact Or.inl ⟨_,m,rfl⟩
 |iter=>obtain⟨s,p,o,m⟩:=f.iter k t;grind
 |bld T=>obtain⟨s,o,m⟩:=f.bld k T t;grind
 |arr E O=>
  obtain⟨s,o,m⟩:=f.arr k E O t;rw[z]at o;cases o;rcases m with⟨g,m,_⟩|⟨m,_⟩
  ·exact Or.inl ⟨_,m,rfl⟩
  grind
theorem StFit.arrBack(f:StFit P st bs bs st st'){k H:Nat}{E:TypeId}{xs:List PV}(I:st'[k]?=some (.arr E H xs))(U:k<st.length):∃g,st[k]?=some (.arr E g xs)/\(H=0->g=0):=by
 have z:k<bs.length:=by rw[<-f.len];grind
 have m:bs[k]?=some bs[k]:=Ap z;generalize bs[k]=c at m;cases c with
 |acc=>rw[(f.acc k m).1]at I;cases I
 |box T p=>obtain⟨s,vs,J,V,M,o,t,W⟩:=f.box k T p m;grind
 |map K E=>obtain⟨es,o,t⟩:=f.map k K E m;grind
 |mit K E=>obtain⟨es,o,c,t⟩:=f.mit k K E m;grind
 |iter=>obtain⟨s,p,o,t⟩:=f.iter k m;grind
 |bld T=>obtain⟨s,o,t⟩:=f.bld k T m;grind
 |arr O G=>obtain⟨s,o,t⟩:=f.arr k O G m;all_goals grind
theorem StFit.kept(f:StFit P st bs bs st st'){k:Nat}{b:BX}(I:st[k]?=some b)(m:k<bs.length):∃o,st'[k]?=some o/\o.kind=b.kind:=by have t:st'[k]?=some (st'[k]'(by rw[f.len];exact m)):=Ap _;rcases f.kind t with⟨G,H,z⟩|z;all_goals grind
theorem StFit.arrOn(f:StFit P st bs bs st st'){k g:Nat}{E:TypeId}{xs:List PV}(t:st[k]?=some (.arr E g xs))(o:k<bs.length):∃m,st'[k]?=some (.arr E m xs)/\(m=0->g=0):=by obtain⟨H,z,G⟩:=f.kept t o;obtain⟨m,ys,rfl⟩:=ajk G;obtain⟨I,J,M⟩:=f.arrBack z (A6.1 t).1;grind
theorem ArrKeep.to{w w':World}{ow m:Own}{μ o:Nat->Nat}{k n:Nat}{E:TypeId}(h:ArrKeep w ow μ w' m o k E)(U:k<n):ArrKeep w ow μ w' (owTo m n) o k E:=by intro t G H;obtain⟨I,J,z,M,O⟩:=h t G H;grind[owTo_some]
theorem ArrKeep.from{w w':World}{ow m:Own}{μ o:Nat->Nat}{k n:Nat}{E:TypeId}(h:ArrKeep w (owTo ow n) μ w' m o k E)(G:k<n):ArrKeep w ow μ w' m o k E:=by intro t z H;exact h t z (owTo_some.2 ⟨H,G⟩)
theorem Objs.fit(f:StFit P st bs bs st st')(h:Objs P D ow μ st w):Objs P D (owTo ow bs.length) μ st' w:=by
 refine⟨λk b G=>?_,λb k ob=>?_,h.dlt,λb k y ob G hy o d=>?_⟩
 ·have I:k<bs.length:=by rw[<-f.len];grind
  have J:bs[k]?=some bs[k]:=Ap I;generalize bs[k]=c at J;have H:∀c,ow c=some k->w.heap[c]?=w.heap[c]?/\owTo ow bs.length c=some k/\∀o,D c o->D c o:=λc oc=>⟨rfl,owTo_some.2 ⟨oc,I⟩,λ_ d=>d⟩;cases c with
  |acc=>rw[(f.acc k J).1]at G;cases G;trivial
  |box T p=>obtain⟨s,vs,X,aa,Z,z,t,h3⟩:=f.box k T p J;rw[h3]at G;cases G;obtain⟨O,T',M,U,W,q4,q5⟩:=h.obj k _ z;exact⟨O,T',M,U,owTo_some.2 ⟨W,I⟩,q4,an6 f p s aa vs Z X _ t q5⟩
  |map K E=>obtain⟨es,z,t⟩:=f.map k K E J;rw[t]at G;cases G;obtain⟨ents,clock,kc,vc,M,U,W⟩:=h.obj k _ z;exact⟨ents,clock,kc,vc,M,owTo_some.2 ⟨U,I⟩,W⟩
  |iter=>obtain⟨s,p,z,t⟩:=f.iter k J;rw[t]at G;cases G;exact ObjRep.mono (P:=P) (b:=.iter s p) (h.obj k _ z) (λ_ _ d=>d) (Keeps.refl _ _) (λ_=>rfl) H
  |mit K E=>obtain⟨es,z,c,t⟩:=f.mit k K E J;rw[z]at G;cases G;have h0:=ObjRep.mono (P:=P) (b:=.mit K E c es) (h.obj k _ t) (λ_ _ d=>d) (Keeps.refl _ _) (λ_=>rfl) H;obtain⟨M,U,m,V,c0,Y,W,q4,q5⟩:=h0;exact⟨M,U,m,V,c0,Y,W,q4,λe he=>by cases he⟩
  |bld T=>obtain⟨s,z,t⟩:=f.bld k T J;rw[t]at G;cases G;exact ObjRep.mono (P:=P) (b:=.bld T s) (h.obj k _ z) (λ_ _ d=>d) (Keeps.refl _ _) (λ_=>rfl) H
  |arr E fl=>
   obtain⟨s,z,t⟩:=f.arr k E fl J;rw[z]at G;cases G;rcases t with⟨g,t,_⟩|⟨_,t⟩
   ·have h0:ObjRep P D w ow μ k (.arr E g s):=h.obj k _ t;exact ObjRep.mono (P:=P) (b:=.arr E g s) h0 (λ_ _ d=>d) (Keeps.refl _ _) (λ_=>rfl) H
   ·subst t;exact Or.inl rfl
 ·obtain⟨z,t⟩:=owTo_some.1 ob;exact⟨(h.owlt b k z).1,by rw[f.len];exact t⟩
 ·obtain⟨z,t⟩:=owTo_some.1 ob;rcases f.kind G with⟨b0,M,U⟩|M
  ·exact h.lone b k b0 z M (agn U.symm hy) o d
  ·have:=(h.owlt b k z).2;omega
theorem WRel.frame(t:Γ.np<=bs.length)(f:StFit Γ.P st bs bs st st')(m:WRel Γ D ow μ st w):WRel Γ D (owTo ow bs.length) μ st' w:=by
 have z:=m.objs.fit f;refine⟨λk T s o=>z.obj k _ o,λk K E es o=>z.obj k _ o,λk b o=>?_,z.owlt,m.dlt,m.os,m.tape,m.output,m.hs,m.old,m.dom0,m.domN,λb k U M=>m.owN b k (owTo_some.1 U).1 M,by rw[f.len];exact t,m.mu0,λk o=>?_,z.lone,m.keep0,λk o E xs e=>?_⟩
 ·have:=z.obj k b o;cases b with
  |box T s=>trivial
  |map K E es=>trivial
  |acc g=>trivial
  |hole=>trivial
  |_=>exact this
 ·obtain⟨s,O,W⟩:=m.par k o;obtain⟨V,G,H⟩:=f.kept O (A0 o t);grind
 ·obtain⟨g,G,H⟩:=f.arrBack e (A0 o m.np);have:=H rfl;subst this;obtain⟨I,J⟩:=m.arr0 k o E xs G;exact⟨I,J.to (A0 o t)⟩
theorem Rel.frame{e G:Env}{a:Act}(I:Γ.np<=bs.length)(f:StFit Γ.P st bs bs st st')(H:∀t,G t=.undef\/∃M,alu Γ.P st bs M (e t)=some (G t))(V:Rel Γ e st a w):Rel Γ G st' a w:=by
 obtain⟨D,ow,μ,W,J⟩:=V;refine⟨D,owTo ow bs.length,μ,W.frame I f,J.size,J.defers,λt=>?_⟩
 ·rcases H t with h|⟨M,h⟩
  ·rw[h];exact SRep.slot .undef
  ·have o:=J.slot t;have U:∀u m x,e t≠.gd u m x:=by
    intro u m x O;rw[O]at h;unfold alu at h;grind[canon,au6,am6]
   have z:SRep Γ.P D w ow μ st (e t) (a.tmps.getD t Go.undef):=by
    cases H:e t with
    |gd u m x=>grind
    |_=>rw[H]at o;exact o
   exact(adq f z h).slot
theorem Frame.dec_spec{F:Frame}{e:Env}{x:F.ty}(h:F.dec P e st=some x):StFit P st F.bs F.bs st (F.st x)/\∀t,F.env x t=.undef\/∃J,alu P st F.bs J (e t)=some (F.env x t):=by
 unfold Frame.dec at h;split at h
 ·rename_i vs o z G;have H:=axl _ _ _ h;obtain⟨l,U⟩:=asm _ _ _ z;have V:=aqx _ _ _ _ G;have M:F.st x=toSt F.bs o:=by
   grind[Frame.st,List.drop_left]
  have O:F.env x=alf F.slots vs:=by
   unfold Frame.env;rw[<-H];have:∀(m:List Nat)(vs o:List SV),vs.length=m.length->alf m (vs++o)=alf m vs:=by
    intro m;induction m with
    |nil=>grind[alf]
    |cons t m W=>
     intro vs o I;cases vs with
     |nil=>simp at I
     |cons v vs=>simp_all[A2,alf]
   grind
  simp_all
 ·cases h
theorem Frame.dec_sound{F:Frame}{e:Env}{x:F.ty}{a:Act}(m:Γ.P=P)(o:Γ.np<=F.bs.length)(h:F.dec P e st=some x)(G:Rel Γ e st a w):Rel Γ (F.env x) (F.st x) a w:=by subst m;obtain⟨t,z⟩:=Frame.dec_spec h;grind[Rel.frame]
theorem Frame.dec_pan{F:Frame}{e:Env}{x:F.ty}{v:Value}{a:Act}(z:Γ.P=P)(m:Γ.np<=F.bs.length)(h:F.dec P e st=some x)(H:PRel Γ (e 0) st v a w):PRel Γ (F.env x 0) (F.st x) v a w:=by
 subst z;obtain⟨o,t⟩:=Frame.dec_spec h;obtain⟨G,D,ow,μ,I,J⟩:=H;refine⟨G,D,owTo ow F.bs.length,μ,I.frame m o,?_⟩;rcases t 0 with h|⟨M,h⟩
 ·rw[h];exact .undef
 grind[adq]
end
def asi:LEx->LEx->Bool
 |.exit i,.exit j=>Nat.beq i j
 |.ret,.ret=>true
 |.pan,.pan=>true
 |_,_=>false
theorem ajl{x y:LEx}(h:asi x y=true):x=y:=by unfold asi at h;grind[Nat.eq_of_beq_eq_true]
@[reducible] def XTy:List (LEx×Frame)->Type
 |[]=>Empty
 |[x]=>x.2.ty
 |x::y::r=>x.2.ty⊕XTy (y::r)
def decX(P:Program):(X:List (LEx×Frame))->LEx->Env->List BX->Option (XTy X)
 |[],_,_,_=>none
 |[x],l,e,st=>bif asi x.1 l then x.2.dec P e st else none
 |x::y::r,l,e,st=>bif asi x.1 l then(match x.2.dec P e st with|some v=>some (.inl v)|none=>none)else(match decX P (y::r) l e st with|some v=>some (.inr v)|none=>none)
def exX:(X:List (LEx×Frame))->XTy X->LEx
 |[x],_=>x.1
 |x::_::_,.inl _=>x.1
 |_::y::r,.inr v=>exX (y::r) v
def envX:(X:List (LEx×Frame))->XTy X->Env
 |[x],v=>x.2.env v
 |x::_::_,.inl v=>x.2.env v
 |_::y::r,.inr v=>envX (y::r) v
def stX:(X:List (LEx×Frame))->XTy X->List BX
 |[x],v=>x.2.st v
 |x::_::_,.inl v=>x.2.st v
 |_::y::r,.inr v=>stX (y::r) v
def sumE{α o m:Type}(f:α->m)(g:o->m):α⊕o->m
 |.inl a=>f a
 |.inr b=>g b
def kX{R:Type}:(X:List (LEx×Frame))->XTy X->(LEx->Env->List BX->Option R)->Option R
 |[x],v,K=>K x.1 (x.2.env v) (x.2.st v)
 |x::y::r,v,K=>sumE (λv=>K x.1 (x.2.env v) (x.2.st v)) (λv=>kX (y::r) v K) v
theorem kX_eq{R:Type}:∀(X:List (LEx×Frame))(v:XTy X)(K:LEx->Env->List BX->Option R),kX X v K=K (exX X v) (envX X v) (stX X v):=by
 intro X;induction X with
 |nil=>grind
 |cons x r m=>
  intro v K;cases r with
  |nil=>rfl
  |cons y r=>
   cases v with
   |inl v=>rfl
   |inr v=>exact m v K
def npX(np:Nat)(X:List (LEx×Frame)):Bool:=X.all λx=>Nat.ble np x.2.bs.length
theorem a8x:∀(X:List (LEx×Frame))(v:XTy X),NoGd (envX X v):=by
 intro X;induction X with
 |nil=>grind
 |cons x r m=>
  intro v;cases r with
  |nil=>exact x.2.noGd v
  |cons y r=>
   cases v with
   |inl v=>exact x.2.noGd v
   |inr v=>exact m v
theorem azw{P:Program}{e:Env}{st:List BX}{l:LEx}:∀(X:List (LEx×Frame))(v:XTy X),decX P X l e st=some v->exX X v=l:=by
 intro X;induction X with
 |nil=>grind
 |cons x r t=>
  intro v h;cases r with
  |nil=>
   simp only[decX]at h;cases m:asi x.1 l with
   |false=>grind
   |true=>exact ajl m
  |cons y r=>
   simp only[decX]at h;cases m:asi x.1 l with
   |true=>
    rw[m]at h;simp only[Ad]at h;split at h
    ·cases h;exact ajl m
    ·cases h
   |false=>
    rw[m]at h;simp only[Af]at h;split at h
    ·rename_i u o;cases h;exact t u o
    ·cases h
theorem ath{Γ:Ctx}{P:Program}(G:Γ.P=P){w:World}{a:Act}{e:Env}{st:List BX}{l:LEx}:∀(X:List (LEx×Frame))(v:XTy X),npX Γ.np X=true->decX P X l e st=some v->exX X v=l/\(Rel Γ e st a w->Rel Γ (envX X v) (stX X v) a w):=by
 intro X;induction X with
 |nil=>grind
 |cons x r J=>
  intro v H h;have I:Γ.np<=x.2.bs.length:=by simp_all[npX,Bb,Ai]
  cases r with
  |nil=>
   simp only[decX]at h;cases m:asi x.1 l with
   |false=>grind
   |true=>rw[m]at h;exact⟨ajl m,λt=>Frame.dec_sound G I h t⟩
  |cons y r=>
   simp only[decX]at h;cases m:asi x.1 l with
   |true=>
    rw[m]at h;simp only[Ad]at h;split at h
    ·rename_i u z;cases h;exact⟨ajl m,λt=>Frame.dec_sound G I z t⟩
    ·cases h
   |false=>
    rw[m]at h;simp only[Af]at h;split at h
    ·rename_i u z;cases h;have o:npX Γ.np (y::r)=true:=by
      simp only[npX,Bb,Ai]at H ⊢;exact H.2
     exact J u o z
    ·cases h
theorem bdp{Γ:Ctx}{P:Program}(G:Γ.P=P){w:World}{a:Act}{v0:Value}{e:Env}{st:List BX}{l:LEx}:∀(X:List (LEx×Frame))(v:XTy X),npX Γ.np X=true->decX P X l e st=some v->exX X v=l/\(PRel Γ (e 0) st v0 a w->PRel Γ (envX X v 0) (stX X v) v0 a w):=by
 intro X;induction X with
 |nil=>grind
 |cons x r J=>
  intro v H h;have I:Γ.np<=x.2.bs.length:=by simp_all[npX,Bb,Ai]
  cases r with
  |nil=>
   simp only[decX]at h;cases m:asi x.1 l with
   |false=>grind
   |true=>rw[m]at h;exact⟨ajl m,λt=>Frame.dec_pan G I h t⟩
  |cons y r=>
   simp only[decX]at h;cases m:asi x.1 l with
   |true=>
    rw[m]at h;simp only[Ad]at h;split at h
    ·rename_i u z;cases h;exact⟨ajl m,λt=>Frame.dec_pan G I z t⟩
    ·cases h
   |false=>
    rw[m]at h;simp only[Af]at h;split at h
    ·rename_i u z;cases h;have o:npX Γ.np (y::r)=true:=by
      simp only[npX,Bb,Ai]at H ⊢;exact H.2
     exact J u o z
    ·cases h
def aen{m o:Type}(step:m->Option (m⊕o)):Nat->m->Option o
 |0,_=>none
 |n+1,x=>
  match step x with
  |none=>none
  |some (.inl x1)=>aen step n x1
  |some (.inr y)=>some y
theorem a6c{o t:Type}{step:o->Option (o⊕t)}:∀(n m:Nat)(x:o)(y:t),aen step n x=some y->n<=m->aen step m x=some y:=by
 intro n;induction n with
 |zero=>grind[aen]
 |succ n G=>intro m x y h z;obtain⟨k,rfl⟩:∃k,m=k+1:=⟨m-1,by omega⟩;grind[aen]
open Classical in
noncomputable def aap{m o:Type}(step:m->Option (m⊕o))(x:m):Option o:=
 if h:∃n y,aen step n x=some y then aen step h.choose x else none
theorem ajm{m o:Type}{step:m->Option (m⊕o)}{x:m}{y:o}(h:aap step x=some y):∃n,aen step n x=some y:=by unfold aap at h;split at h;all_goals grind
theorem ava{m o:Type}{step:m->Option (m⊕o)}{x:m}{y:o}(n:Nat)(h:aen step n x=some y):aap step x=some y:=by unfold aap;have t:∃n y,aen step n x=some y:=⟨n,y,h⟩;rw[dif_pos t];grind[a6c,max,Nat.le_max_right,Nat.le_max_left]
theorem alt{z H:Type}(step:z->Option (z⊕H))(x:z):aap step x=(match step x with|none=>none|some (.inl x1)=>aap step x1|some (.inr y)=>some y):=by
 cases G:step x with
 |none=>
  cases o:aap step x with
  |none=>rfl
  |some y=>
   obtain⟨n,m⟩:=ajm o;cases n with
   |zero=>simp[aen]at m
   |succ n=>grind[aen]
 |some s=>
  cases s with
  |inr y=>exact ava 1 (by simp[aen,G])
  |inl x1=>
   show _=aap step x1;cases o:aap step x1 with
   |some y=>obtain⟨n,m⟩:=ajm o;exact ava (n+1) (by simp[aen,G,m])
   |none=>
    cases t:aap step x with
    |none=>rfl
    |some y=>
     obtain⟨n,m⟩:=ajm t;cases n with
     |zero=>simp[aen]at m
     |succ n=>grind[aen,ava]
theorem aan{m o:Type}{step:m->Option (m⊕o)}{x x1:m}(h:step x=some (.inl x1)):aap step x=aap step x1:=by rw[alt,h]
theorem aae{m o:Type}{step:m->Option (m⊕o)}{x:m}{y:o}(h:step x=some (.inr y)):aap step x=some y:=by rw[alt,h]
noncomputable def aad{o t:Type}(m:Nat)(step:o->Option (o⊕t))(x:o):Option t:=
 match m with
 |0=>aap step x
 |n+1=>aen step (n+1) x
theorem a6b{o t:Type}{m:Nat}{step:o->Option (o⊕t)}{x:o}{y:t}(h:aad m step x=some y):∃n,aen step n x=some y:=by unfold aad at h;grind[ajm]
theorem aat{m o:Type}(step:m->Option (m⊕o))(x:m):aad 0 step x=aap step x:=rfl
structure LoopE where
 key:Nat
 H:Frame
 X:List (LEx×Frame)
 step:H.ty->Option (H.ty⊕XTy X)
noncomputable def bkl(P:Program)(m:Nat):List LoopE->(R:Type)->Nat->Env->List BX->(LEx->Env->List BX->Option R)->Option R
 |[],_,_,_,_,_=>none
 |l::r,R,key,e,st,K=>bif Nat.beq l.key key then(l.H.dec P e st).bind λx=>(aad m l.step x).bind λy=>kX l.X y K else bkl P m r R key e st K
def bcd{m o:Type}(x:Option m):Option (m⊕o):=match x with|some v=>some (.inl v)|none=>none
def av8{o m:Type}(x:Option m):Option (o⊕m):=match x with|some v=>some (.inr v)|none=>none
def ag4(C:Cfg)(body:Code)(l:LoopE):Prop:=
 ∀(x:l.H.ty),exec C body { norm:=λe st=>bcd (l.H.dec C.P e st),exit:=λi e st=>av8 (decX C.P l.X (.exit i) e st),ret:=λe st=>av8 (decX C.P l.X .ret e st),pan:=λs st=>av8 (decX C.P l.X .pan (λt=>bif Nat.beq t 0 then s else .undef) st) } (l.H.env x) (l.H.st x)=l.step x
theorem a0n{C:Cfg}(Z:acx C){body:Code}{l:LoopE}(hL:∀b,b∈aaq body->LoopOk C b)(ab:Nat.ble C.np l.H.bs.length=true)(hX:npX C.np l.X=true)(o:ag4 C body l):
 ∀(n:Nat)(x:l.H.ty)(y:XTy l.X),aen l.step n x=some y->a2f C body n (l.H.env x) (l.H.st x) (exX l.X y) (envX l.X y) (stX l.X y):=by
 intro n
 induction n with
 |zero=>grind[aen]
 |succ n ih=>
  intro x y h
  have W:=o x
  cases M:l.step x with
  |none=>grind[aen]
  |some s=>
   rw[M]at W
   refine a6d Z hL W (λO t m U=>?_) (λi O t m U=>?_) (λO t m U=>?_) (λs1 t m=>?_)
   ·simp only[bcd]at m;split at m
    ·rename_i x1 Y;cases m;simp only[aen,M]at h;intro Γ J V I Q a w hr aa hQ;exact ih x1 y h Γ J V I Q a w (Frame.dec_sound J (by simp_all) Y hr) (l.H.noGd x1) hQ
    ·cases m
   ·simp only[av8]at m;grind[aen,Option.some.injEq,azw,ath]
   ·simp only[av8]at m;grind[aen,Option.some.injEq,azw,ath]
   ·simp only[av8]at m;split at m
    ·rename_i z G;cases m;simp only[aen,M,Aj]at h;subst h;exact⟨azw l.X z G,λΓ v a w J V hp=>(bdp (a:=a) (w:=w) (v0:=v) J l.X z (by grind) G).2 hp⟩
    ·cases m
theorem bax{C:Cfg}(U:acx C){body:Code}(t:Nat)(l:LoopE)(V:∀b,b∈aaq body->LoopOk C b)(m:(Nat.ble C.np l.H.bs.length&&npX C.np l.X)=true)(o:ag4 C body l)
 (z:∀(R:Type)(e:Env)(st:List BX)(K:LEx->Env->List BX->Option R),C.lam R (aeg body) e st K=(l.H.dec C.P e st).bind λx=>(aad t l.step x).bind λy=>kX l.X y K):LoopOk C body:=by
 simp only[Ai]at m
 refine LoopOk.one λR e st K r h=>?_
 rw[z]at h
 simp only[Bh]at h
 obtain⟨x,O,y,I,J⟩:=h
 rw[kX_eq]at J
 obtain⟨n,I⟩:=a6b I
 refine⟨exX l.X y,envX l.X y,stX l.X y,n,J,a8x _ _,?_⟩
 intro Γ M Y G Q a w Z hg W
 exact a0n U V m.1 m.2 o n x y I Γ M Y G Q a w (Frame.dec_sound M (by simp_all) O Z) (l.H.noGd x) W
structure AFrame where
 n:Nat
 bs:List BSh
 sh:List Shape
@[reducible] def AFrame.ty(A:AFrame):Type:=TyL A.sh
def AFrame.args(A:AFrame)(x:A.ty):List SV:=(encL A.sh x).take A.n
def AFrame.st(A:AFrame)(x:A.ty):List BX:=toSt A.bs ((encL A.sh x).drop A.n)
def ajo(P:Program)(st:List BX)(bs:List BSh):List SV->List Shape->Option (List SV)
 |[],_=>some []
 |s::ss,sh::shs=>match alu P st bs sh s,ajo P st bs ss shs with|some v,some vs=>some (v::vs)|_,_=>none
 |_::_,[]=>none
def AFrame.get(A:AFrame)(P:Program)(m:List SV)(st:List BX):Option A.ty:=
 bif Nat.beq m.length A.n then
  match ajo P st A.bs m A.sh,afu P st A.bs A.bs st (A.sh.drop A.n)with
  |some vs,some o=>getL A.sh (vs++o)
  |_,_=>none
 else none
theorem avl{P:Program}{st:List BX}{bs:List BSh}:∀(o:List SV)(m:List Shape)(vs:List SV),ajo P st bs o m=some vs->vs.length=o.length/\∀(i:Nat)(x:SV),vs[i]?=some x->∃y t,o[i]?=some y/\alu P st bs t y=some x:=by
 intro o;induction o with
 |nil=>grind[ajo]
 |cons s ss z=>
  intro m vs h;cases m with
  |nil=>simp[ajo]at h
  |cons t m=>grind[ajo]
theorem AFrame.get_spec{P:Program}{A:AFrame}{m:List SV}{st:List BX}{x:A.ty}(h:A.get P m st=some x):m.length=A.n/\StFit P st A.bs A.bs st (A.st x)/\(A.args x).length=m.length/\∀(i:Nat)(s:SV),(A.args x)[i]?=some s->∃y t,m[i]?=some y/\alu P st A.bs t y=some s:=by
 unfold AFrame.get at h;cases o:Nat.beq m.length A.n with
 |false=>grind
 |true=>rw[o]at h;have z:=Ag o;simp only[Ad]at h;grind[axl,avl,aqx,toSt,AFrame.st,List.drop_left,AFrame.args,List.take_left]
theorem Meets.enter{P:Program}{A:AFrame}{f:FuncId}{Z:List SV}{st:List BX}{x:A.ty}(h:A.get P Z st=some x)(I:st.length<=A.bs.length){rs:List SV}{st':List BX}(hm:Meets P f (A.args x) (A.st x) rs st'):Meets P f Z st rs st':=by
 obtain⟨h1,O,h3,h4⟩:=AFrame.get_spec h;refine⟨hm.1,λD ow μ w G z=>?_⟩;have M:Pre P D (owTo ow A.bs.length) μ (A.st x) w (A.args x) G:=by
  refine⟨by rw[z.size,h3],λi s v hs hv=>?_,z.objs.fit O,λp m g hg=>?_⟩
  ·obtain⟨y,sh,hy,hl⟩:=h4 i s hs;exact adq O (z.arg i y v hy hv) hl
  ·obtain⟨U,q2⟩:=z.tabs p m g hg;grind[owTo]
 refine(hm.2 D _ μ w G M).mono λe w'⟨v,D',he,m⟩=>⟨v,D',he,m.dom,λb o d=>?_,?_,m.os,m.tape,m.output,m.size,λb V hn=>m.old b V (by simp[owTo,hn]),m.keeps⟩
 ·rcases m.new b o d with d|d|d;all_goals grind[owTo]
 ·obtain⟨X,Y,J⟩:=m.rest;refine⟨X,Y,J.objs,J.res,λb k V t=>(owTo_some.1 (J.own b k V t)).1,λk b H=>?_,λk E g xs ys H W=>?_⟩
  ·obtain⟨b1,U,q2⟩:=O.kept H (A0 (A6.1 H).1 I);obtain⟨b2,r1,r2,r3⟩:=J.keep k b1 U;grind[agn,axr]
  ·have t:=A0 (A6.1 H).1 I;obtain⟨fl,U,q2⟩:=O.arrOn H t;obtain⟨r1,r2⟩:=J.same k E fl xs ys U W;exact⟨r1,r2.from t⟩
theorem Post.leave{P:Program}{A:AFrame}{D:Dom}{w:World}{ow:Own}{μ:Nat->Nat}{st:List BX}{U:List SV}{s:List BX}{v:Value}{D':Dom}{w':World}{y:A.ty}(h:A.get P U s=some y)(X:st.length<=A.bs.length)(o:Post P D w ow μ st U s v D' w'):Post P D w ow μ st (A.args y) (A.st y) v D' w'/\aig (A.args y) v=aig U v:=by
 obtain⟨h1,h2,h3,h4⟩:=AFrame.get_spec h;obtain⟨aa,ab,O⟩:=o.rest;have af:∀s0,U≠[.pan s0]:=by rintro s0 rfl;obtain⟨s1,Z⟩:=List.length_eq_one_iff.1 (show(A.args y).length=1 by rw[h3];rfl);obtain⟨z,sh,hz,Y⟩:=h4 0 s1 (by simp[*]);grind[ba0]
 rcases acd O.res with⟨s0,e,_⟩|⟨_,I,V⟩
 ·grind
 have H:SRep P D' w' (owTo aa A.bs.length) ab (A.st y) (adk (A.args y)) v:=by
  have m:=I;by_cases W:U.length=1
  ·obtain⟨s0,rfl⟩:=List.length_eq_one_iff.1 W;obtain⟨s1,Z⟩:=List.length_eq_one_iff.1 (show(A.args y).length=1 by omega);rw[Z]at h4 ⊢;obtain⟨z,sh,hz,Y⟩:=h4 0 s1 rfl;simp at hz;subst hz;exact adq h2 m Y
  ·have e1:∀l:List SV,l.length≠1->adk l=.tup l:=by
    intro l W;match l,W with
    |[],_=>rfl
    |[x],W=>grind
    |x::y::r,_=>rfl
   rw[e1 U W]at m;rw[e1 _ (by omega)];cases m with
   |tup hs ae=>refine .tup (by omega) (λi x u hx hu=>?_);grind[adq]
 obtain⟨J,t⟩:=aiz H;refine⟨⟨o.dom,o.new,?_,o.os,o.tape,o.output,o.size,o.old,o.keeps⟩,t.trans V.symm⟩;refine⟨owTo aa A.bs.length,ab,O.objs.fit h2,J,λb k hb G=>O.own b k (owTo_some.1 hb).1 G,λk b M=>?_,λk E g xs ys M ad=>?_⟩
 ·obtain⟨b1,q1,q2,q3⟩:=O.keep k b M;obtain⟨b2,r1,r2⟩:=h2.kept q1 (A0 (A6.1 M).1 X);grind
 ·have G:=A0 (A6.1 M).1 X;obtain⟨b1,p1,p2,_⟩:=O.keep k _ M;obtain⟨g1,q1,q2⟩:=h2.arrBack ad (A6.1 p1).1;have:=q2 rfl;subst this;obtain⟨r1,r2⟩:=O.same k E g xs ys M q1;exact⟨r1,r2.to G⟩
theorem Post.leaveP{P:Program}{A:AFrame}{D:Dom}{w:World}{ow:Own}{μ:Nat->Nat}{st:List BX}{Z:SV}{s:List BX}{v:Value}{D':Dom}{w':World}{y:A.ty}(h:A.get P [Z] s=some y)(H:st.length<=A.bs.length)(m:Post P D w ow μ st [.pan Z] s v D' w'):Post P D w ow μ st [.pan ((A.args y).headD .undef)] (A.st y) v D' w':=by
 obtain⟨h1,I,h3,h4⟩:=AFrame.get_spec h;obtain⟨U,W,G⟩:=m.rest;refine⟨m.dom,m.new,?_,m.os,m.tape,m.output,m.size,m.old,m.keeps⟩;obtain⟨s1,O⟩:=List.length_eq_one_iff.1 (show(A.args y).length=1 by rw[h3];rfl);obtain⟨z,sh,X,M⟩:=h4 0 s1 (by simp[*]);simp at X;subst X;rw[O];refine⟨owTo U A.bs.length,W,G.objs.fit I,adq I G.res M,λb k hb o=>G.own b k (owTo_some.1 hb).1 o,λk b t=>?_,λk E g xs ys t J=>?_⟩
 ·obtain⟨b1,V,Y,q3⟩:=G.keep k b t;obtain⟨b2,r1,r2⟩:=I.kept V (A0 (A6.1 t).1 H);grind
 ·have o:=A0 (A6.1 t).1 H;obtain⟨b1,p1,p2,_⟩:=G.keep k _ t;obtain⟨g1,V,Y⟩:=I.arrBack J (A6.1 p1).1;have:=Y rfl;subst this;obtain⟨r1,r2⟩:=G.same k E g xs ys t V;exact⟨r1,r2.to o⟩
structure CallE where
 f:FuncId
 A:AFrame
 R:AFrame
 F:A.ty->Option R.ty
 dflt:R.ty
def CallE.Ok(P:Program)(c:CallE):Prop:=∀(x:c.A.ty)(y:c.R.ty),c.F x=some y->Meets P c.f (c.A.args x) (c.A.st x) (c.R.args y) (c.R.st y)
structure CallP where
 f:FuncId
 A:AFrame
 R:AFrame
 X:AFrame
 F:A.ty->Option (R.ty⊕X.ty)
 dflt:R.ty
def CallP.Ok(P:Program)(c:CallP):Prop:=∀(x:c.A.ty),(∀(y:c.R.ty),c.F x=some (.inl y)->Meets P c.f (c.A.args x) (c.A.st x) (c.R.args y) (c.R.st y))/\∀(y:c.X.ty),c.F x=some (.inr y)->Meets P c.f (c.A.args x) (c.A.st x) [.pan ((c.X.args y).headD .undef)] (c.X.st y)
def a4v(P:Program):List CallP->(R:Type)->Bool->FuncId->List SV->List BX->(List SV->List BX->Option R)->Option R
 |[],_,_,_,_,_,_=>none
 |c::r,R,b,f,as,st,K=>
  bif Nat.beq c.f f&&Nat.ble st.length c.A.bs.length then
   match c.A.get P as st with
   |some x=>(bif b then c.F x else some (.inl c.dflt)).bind λy=>sumE (λy=>K (c.R.args y) (c.R.st y)) (λy=>K [.pan ((c.X.args y).headD .undef)] (c.X.st y)) y
   |none=>a4v P r R b f as st K
  else a4v P r R b f as st K
def atd(P:Program)(ps:List CallP):List CallE->(R:Type)->Bool->FuncId->List SV->List BX->(List SV->List BX->Option R)->Option R
 |[],R,b,f,as,st,K=>a4v P ps R b f as st K
 |c::r,R,b,f,as,st,K=>
  bif Nat.beq c.f f&&Nat.ble st.length c.A.bs.length then
   match c.A.get P as st with
   |some x=>(bif b then c.F x else some c.dflt).bind λy=>K (c.R.args y) (c.R.st y)
   |none=>atd P ps r R b f as st K
  else atd P ps r R b f as st K
theorem bdg{P:Program}:∀(cs:List CallP),(∀c,c∈cs->c.Ok P)->∀(R:Type)(b:Bool)(f:FuncId)(t:List SV)(st:List BX)(K:List SV->List BX->Option R)(r:R),a4v P cs R b f t st K=some r->
 (b=true->∃G st',K G st'=some r/\Meets P f t st G st')/\∃G st',K G st'=some r:=by
 intro cs
 induction cs with
 |nil=>grind[a4v]
 |cons c cs O=>
  intro o R b f t st K r h
  have U:=O (λc M=>o c (List.mem_cons_of_mem _ M)) R b f t st K r
  simp only[a4v]at h
  cases m:(Nat.beq c.f f&&Nat.ble st.length c.A.bs.length)with
  |false=>grind
  |true=>
   rw[m]at h
   simp only[Ai]at m
   have:=Ag m.1;subst this
   simp only[Ad]at h
   split at h
   ·rename_i x J;cases b with
    |true=>
     simp only[Ad,Bh]at h;obtain⟨y,H,z⟩:=h;have I:=o c (by simp) x;cases y with
     |inl y=>exact⟨λ_=>⟨_,_,z,Meets.enter J (At m.2) (I.1 y H)⟩,_,_,z⟩
     |inr y=>exact⟨λ_=>⟨_,_,z,Meets.enter J (At m.2) (I.2 y H)⟩,_,_,z⟩
    |false=>simp only[Af,Aa]at h;exact⟨λh=>absurd h (by decide),_,_,h⟩
   simp_all
theorem aw0{C:Cfg}{ps:List CallP}(G:∀c,c∈ps->c.Ok C.P):∀(cs:List CallE),(∀c,c∈cs->c.Ok C.P)->∀(R:Type)(b:Bool)(f:FuncId)(m:List SV)(st:List BX)(K:List SV->List BX->Option R)(r:R),atd C.P ps cs R b f m st K=some r->
 (b=true->∃z st',K z st'=some r/\Meets C.P f m st z st')/\∃z st',K z st'=some r:=by
 intro cs
 induction cs with
 |nil=>intro _ R b f m st K r h;exact bdg ps G R b f m st K r h
 |cons c cs O=>
  intro o R b f m st K r h
  have U:=O (λc J=>o c (List.mem_cons_of_mem _ J)) R b f m st K r
  simp only[atd]at h
  cases t:(Nat.beq c.f f&&Nat.ble st.length c.A.bs.length)with
  |false=>grind
  |true=>
   rw[t]at h
   simp only[Ai]at t
   have:=Ag t.1;subst this
   simp only[Ad]at h
   split at h
   ·rename_i x M;cases b with
    |true=>simp only[Ad,Bh]at h;obtain⟨y,I,H⟩:=h;refine⟨λ_=>⟨_,_,H,?_⟩,_,_,H⟩;exact Meets.enter M (At t.2) (o c (by simp) x y I)
    |false=>grind
   simp_all
@[reducible] noncomputable def cfg(P:Program)(n np:Nat)(calls:List CallE)(m:List LoopE)(o:Nat)(ps:List CallP:=[])(own:Bool:=false):Cfg:=
 { P:=P,own:=own,n:=n,np:=np,call:=atd P ps calls,lam:=bkl P o m }
theorem akj{P:Program}{n np:Nat}{calls:List CallE}{m:List LoopE}{o:Nat}{ps:List CallP}{own:Bool}(h:∀c,c∈calls->c.Ok P)(z:∀c,c∈ps->c.Ok P):acx (cfg P n np calls m o ps own):=
 λR b f t st K r G=>aw0 (C:=cfg P n np calls m o ps own) z calls h R b f t st K r G
theorem bgk{P:Program}:∀c,c∈([]:List CallP)->c.Ok P:=λc h=>by cases h
theorem bjs{P:Program}{c:CallP}{cs:List CallP}(h:c.Ok P)(m:∀c,c∈cs->c.Ok P):∀d,d∈c::cs->d.Ok P:=by grind
theorem bjf{P:Program}{n np:Nat}{calls:List CallE}{m:List LoopE}{o:Nat}(h:∀c,c∈calls->c.Ok P):acx (cfg P n np calls m o):=akj h bgk
def lp(c:Code)(i:Nat):Code:=(aaq c).getD i .skip
def abp(fn:Func):Code:=match fn.body with|some c=>c|none=>.skip
theorem bkp{C:Cfg}{c:Code}(h:(aaq c).length=0):∀b,b∈aaq c->LoopOk C b:=by grind
theorem a3k{C:Cfg}{c:Code}(n:Nat)(h:(aaq c).length=n)(t:∀i,i<n->LoopOk C (lp c i)):∀b,b∈aaq c->LoopOk C b:=by intro b m;obtain⟨i,o,rfl⟩:=List.mem_iff_getElem.1 m;grind[lp,List.getElem?_eq_getElem]
theorem loopCut{C:Cfg}{body:Code}(h:∀(R:Type)(e:Env)(st:List BX)(K:LEx->Env->List BX->Option R),C.lam R (aeg body) e st K=none):LoopOk C body:=λR e st K r m=>by grind
theorem bju{P:Program}:∀c,c∈([]:List CallE)->c.Ok P:=λc h=>by cases h
theorem bjt{P:Program}{c:CallE}{cs:List CallE}(h:c.Ok P)(m:∀c,c∈cs->c.Ok P):∀d,d∈c::cs->d.Ok P:=by grind
theorem a3l {C:Cfg} (z:acx C) {f:FuncId}{fn:Func}{c:Code} (J:C.P.funcs[f]?=some fn) (I:fn.body=some c) (O:fn.ntmps=C.n) (m:(fn.name== "runtime.NumGoroutine")=false) (H:∀ body,body∈aaq c->LoopOk C body)
 {A R:AFrame}{F:A.ty->Option R.ty} (G:∀x,alg C fn (A.args x) (A.st x) (R.get C.P)=F x) (o:∀x,(Nat.ble (A.args x).length C.n&&Nat.beq (A.st x).length C.np&&Nat.ble (A.st x).length R.bs.length)=true) (x:A.ty) (y:R.ty) (h:F x=some y):
 Meets C.P f (A.args x) (A.st x) (R.args y) (R.st y):=by
 have t:=o x
 simp only[Ai]at t
 exact ahe z J I O m H (r:=y) ((G x).trans h) (At t.1.1) (Ag t.1.2) (λV s M D w ow μ v D' w' U=>U.leave M (At t.2))
def getP(P:Program)(R X:AFrame)(m:List SV)(st:List BX):Option (R.ty⊕X.ty):=fork m (bcd (R.get P m st)) (λs=>av8 (X.get P [s] st))
theorem bks {C:Cfg} (M:acx C) {f:FuncId}{fn:Func}{c:Code} (W:C.P.funcs[f]?=some fn) (V:fn.body=some c) (Y:fn.ntmps=C.n) (o:(fn.name== "runtime.NumGoroutine")=false) (U:∀ body,body∈aaq c->LoopOk C body)
 {A R X:AFrame}{F:A.ty->Option (R.ty⊕X.ty)} (O:∀x,alg C fn (A.args x) (A.st x) (getP C.P R X)=F x) (H:∀x,(Nat.ble (A.args x).length C.n&&Nat.beq (A.st x).length C.np&&Nat.ble (A.st x).length R.bs.length&&Nat.ble (A.st x).length X.bs.length)=true) (x:A.ty):
 (∀(y:R.ty),F x=some (.inl y)->Meets C.P f (A.args x) (A.st x) (R.args y) (R.st y))/\∀(y:X.ty),F x=some (.inr y)->Meets C.P f (A.args x) (A.st x) [.pan ((X.args y).headD .undef)] (X.st y):=by
 have G:=H x
 simp only[Ai]at G
 refine⟨λy h=>ahe M W V Y o U (r:=.inl y) ((O x).trans h) (At G.1.1.1) (Ag G.1.1.2) (λZ s m D w ow μ v D' w' I=>?_),λy h=>ahe M W V Y o U (r:=.inr y) ((O x).trans h) (At G.1.1.1) (Ag G.1.1.2) (λZ s m D w ow μ v D' w' I=>?_)⟩
 ·unfold getP at m;have t:=ae2 m;clear m;rcases t with⟨s0,rfl,m⟩|⟨_,m⟩
  ·simp only[av8]at m;grind
  ·simp only[bcd]at m;split at m
   ·rename_i z J;cases m;exact I.leave J (At G.1.2)
   ·cases m
 ·unfold getP at m;have t:=ae2 m;clear m;rcases t with⟨s0,rfl,m⟩|⟨_,m⟩
  ·simp only[av8]at m;split at m
   ·rename_i z J;cases m;exact⟨I.leaveP J (At G.2),rfl⟩
   ·cases m
  ·simp only[bcd]at m;grind
end Go.Ab
namespace Go.Ab
open Go
set_option maxRecDepth 100000
noncomputable def limQ{o t:Type}(m:Nat)(G:Nat->o->Option t)(x:o):Option t:=
 match m with
 |0=>open Classical in if h:∃y,∃N,∀n,N<=n->G n x=some y then some (Classical.choose h)else none
 |n+1=>G (n+1) x
theorem bas{o t:Type}{m:Nat}{G:Nat->o->Option t}{x:o}{y:t}(h:limQ m G x=some y):∃n,G n x=some y:=by
 unfold limQ at h;split at h
 ·split at h
  ·rename_i H;cases h;obtain⟨N,z⟩:=Classical.choose_spec H;exact⟨N,z N (Nat.le_refl _)⟩
  ·cases h
 grind
theorem a5z{o t:Type}{G:Nat->o->Option t}{x:o}{y:t}(N:Nat)(h:∀n,N<=n->G n x=some y):limQ 0 G x=some y:=by have m:∃y,∃N,∀n,N<=n->G n x=some y:=⟨y,N,h⟩;unfold limQ;simp only[m,dif_pos];obtain⟨M,z⟩:=Classical.choose_spec m;rw[<-z (max N M) (Nat.le_max_right _ _),h (max N M) (Nat.le_max_left _ _)]
theorem okLim{P:Program}(E:CallE){m:Nat}{G:Nat->E.A.ty->Option E.R.ty}(t:∀x,E.F x=limQ m G x)(h:∀n,CallE.Ok P ⟨E.f,E.A,E.R,G n,E.dflt⟩):E.Ok P:=by intro x y o;rw[t]at o;obtain⟨n,z⟩:=bas o;exact h n x y z
theorem bk7{P:Program}{f:FuncId}{A R:AFrame}{d:R.ty}:CallE.Ok P ⟨f,A,R,λ_=>none,d⟩:=λx y h=>by cases h
theorem okE{P:Program}{E:CallE}{C:Cfg}(fn:Func)(t:acx C)(G:∀b,b∈aaq (abp fn)->LoopOk C b)(H:C.P=P:=by kernel_rfl)(J:C.P.funcs[E.f]?=some fn:=by kernel_rfl)(I:fn.body=some (abp fn):=by kernel_rfl)
 (M:fn.ntmps=C.n:=by kernel_rfl) (m:(fn.name== "runtime.NumGoroutine")=false:=by kernel_rfl) (z:∀ x,alg C fn (E.A.args x) (E.A.st x) (E.R.get C.P)=E.F x:=by intro x;kernel_rfl)
 (o:∀x,(Nat.ble (E.A.args x).length C.n&&Nat.beq (E.A.st x).length C.np&&Nat.ble (E.A.st x).length E.R.bs.length)=true:=by intro x;kernel_rfl):E.Ok P:=by
 subst H
 exact λx y h=>a3l t J I M m G z o x y h
theorem okL{C:Cfg}(G:acx C){body:Code}(m:Nat)(l:LoopE)(I:∀b,b∈aaq body->LoopOk C b)(z:(Nat.ble C.np l.H.bs.length&&npX C.np l.X)=true:=by kernel_rfl)(o:ag4 C body l:=by intro x;kernel_rfl)
 (t:∀(R:Type)(e:Env)(st:List BX)(K:LEx->Env->List BX->Option R),C.lam R (aeg body) e st K=(l.H.dec C.P e st).bind λx=>(aad m l.step x).bind λy=>kX l.X y K:=by intro R e st K;kernel_rfl):LoopOk C body:=bax G m l I z o t
theorem q0{P:Program}:∀c,c∈([]:List CallE)->c.Ok P:=bju
theorem qc{P:Program}{c:CallE}{cs:List CallE}(h:c.Ok P)(m:∀c,c∈cs->c.Ok P):∀d,d∈c::cs->d.Ok P:=bjt h m
theorem L0{C:Cfg}{c:Code}(h:(aaq c).length=0:=by kernel_rfl):∀b,b∈aaq c->LoopOk C b:=bkp h
theorem L1{C:Cfg}{c:Code}(a:LoopOk C (lp c 0))(h:(aaq c).length=1:=by kernel_rfl):∀b,b∈aaq c->LoopOk C b:=a3k 1 h λi m=>by grind
theorem L2{C:Cfg}{c:Code}(a:LoopOk C (lp c 0))(b:LoopOk C (lp c 1))(h:(aaq c).length=2:=by kernel_rfl):∀b,b∈aaq c->LoopOk C b:=a3k 2 h λi m=>by grind
theorem L3{C:Cfg}{c:Code}(a:LoopOk C (lp c 0))(b:LoopOk C (lp c 1))(d:LoopOk C (lp c 2))(h:(aaq c).length=3:=by kernel_rfl):∀b,b∈aaq c->LoopOk C b:=a3k 3 h λi m=>by grind
theorem L4{C:Cfg}{c:Code}(a:LoopOk C (lp c 0))(b:LoopOk C (lp c 1))(d:LoopOk C (lp c 2))(e:LoopOk C (lp c 3))(h:(aaq c).length=4:=by kernel_rfl):∀b,b∈aaq c->LoopOk C b:=a3k 4 h λi m=>by
 match i,m with
 |0,_=>exact a
 |1,_=>exact b
 |2,_=>exact d
 |3,_=>exact e
theorem p0{P:Program}:∀c,c∈([]:List CallP)->c.Ok P:=bgk
theorem pc{P:Program}{c:CallP}{cs:List CallP}(h:c.Ok P)(m:∀c,c∈cs->c.Ok P):∀d,d∈c::cs->d.Ok P:=bjs h m
theorem aeb{P:Program}{f:FuncId}{E:TypeId}{xs:List PV}(W:xs=[]->Meets P f [.nils] [] [.nils] [])(O:Meets P f [.sln E xs] [] [.arr 0 1 E] [.arr E 1 xs]):Meets P f [.slice E xs] [] [.arr 0 1 E] [.arr E 1 xs]:=by
 refine⟨O.1,λD ow μ w z t=>?_⟩;obtain⟨v,rfl⟩:∃v,z=#[v]:=by
  have:=t.size;match z,this with
  |⟨[a]⟩,_=>grind
 have I:=t.arg 0 _ v rfl rfl;have G:∀{s:SV},SRep P D w ow μ [] s v->Pre P D ow μ [] w [s] #[v]:=λ{s}h=>⟨rfl,λi s' V hs hv=>by grind,t.objs,t.tabs⟩
 cases I with
 |slice I=>
  have Y:v=.slice none 0 0/\xs=[]\/∃a n c,v=.slice (some a) n c:=by
   cases I with
   |@nil a c X=>cases a with
    |none=>grind
    |some a=>grind
   |mk=>grind
  rcases Y with⟨rfl,rfl⟩|⟨a,n,c,rfl⟩
  ·refine((W rfl).2 D ow μ w _ (G .nils)).mono λe w' Z=>?_;obtain⟨V,D',rfl,m⟩:=Z;obtain⟨J,M,H⟩:=m.rest;refine⟨V,D',rfl,m.dom,m.new,⟨J,M,⟨λk b e=>?_,λb k o=>?_,H.objs.dlt,λb k x o e hx q=>?_⟩,?_,H.own,λk b e=>by simp at e,λk E g xs ys e=>by simp at e⟩,m.os,m.tape,m.output,m.size,m.old,m.keeps⟩
   ·match k,e with
    |0,e=>simp at e;subst e;exact Or.inl rfl
   ·have:=(H.objs.owlt b k o).2;simp at this
   ·have:=(H.objs.owlt b k o).2;simp at this
   ·have U:=H.res;simp only[aia,adk]at U ⊢;cases U;exact .arrNil rfl
  ·exact O.2 D ow μ w _ (G (.sln I))
structure KC(P:Program) where
 c:CallE
 ok:c.Ok P
structure KP(P:Program) where
 c:CallP
 ok:c.Ok P
def cS{P:Program}:List (KC P)->List CallE
 |[]=>[]
 |k::r=>k.c::cS r
def pS{P:Program}:List (KP P)->List CallP
 |[]=>[]
 |k::r=>k.c::pS r
theorem bjr{P:Program}:∀l:List (KC P),∀c,c∈cS l->c.Ok P
 |[]=>q0
 |k::r=>qc k.ok (bjr r)
theorem blb{P:Program}:∀l:List (KP P),∀c,c∈pS l->c.Ok P
 |[]=>p0
 |k::r=>pc k.ok (blb r)
def Shape.df:(s:Shape)->s.ty
 |.bool=>false
 |.int _=>0
 |.str=>[]
 |.slice _=>[]
 |.data _=>.bad
 |.map _ _=>[]
 |.acc _ _=>[]
 |.pto _=>.bad
 |.raw=>default
 |.eif=>false
 |.ifc _=>.bad
 |.ifs _ _=>[]
 |.sln _=>[]
 |.con _=>()
def dfL:(l:List Shape)->TyL l
 |[]=>()
 |[s]=>s.df
 |s::t::r=>(s.df,dfL (t::r))
def u2{A B R:Type}(f:A->B->R)(x:A×B):R:=f x.1 x.2
def u3{A B C R:Type}(f:A->B->C->R)(x:A×B×C):R:=f x.1 x.2.1 x.2.2
def u4{A B C D R:Type}(f:A->B->C->D->R)(x:A×B×C×D):R:=f x.1 x.2.1 x.2.2.1 x.2.2.2
def u5{A B C D E R:Type}(f:A->B->C->D->E->R)(x:A×B×C×D×E):R:=f x.1 x.2.1 x.2.2.1 x.2.2.2.1 x.2.2.2.2
def u6{A B C D E F R:Type}(f:A->B->C->D->E->F->R)(x:A×B×C×D×E×F):R:=f x.1 x.2.1 x.2.2.1 x.2.2.2.1 x.2.2.2.2.1 x.2.2.2.2.2
def fnAt (P:Program) (f:FuncId):Func:=(P.funcs[f]?).getD { name:= "",origin:= "",params:=#[],resultTypes:=#[],nfree:=0,ntmps:=0,results:=#[],body:=none,norace:=false,tmpNames:=#[] }
@[reducible] noncomputable def xcfg(P:Program)(f:FuncId)(np:Nat)(calls:List (KC P))(ps:List (KP P))(own:Bool)(m:List LoopE):Cfg:=cfg P (fnAt P f).ntmps np (cS calls) m 0 (pS ps) own
theorem bcz{P:Program}{f:FuncId}{np:Nat}{calls:List (KC P)}{ps:List (KP P)}{own:Bool}{m:List LoopE}:acx (xcfg P f np calls ps own m):=akj (bjr calls) (blb ps)
def xg{P:Program}(f:FuncId)(A R:AFrame)(F:A.ty->Option R.ty)(calls:List (KC P))(ps:List (KP P))(own:Bool)(m:List LoopE)(H:∀b,b∈aaq (abp (fnAt P f))->LoopOk (xcfg P f A.bs.length calls ps own m) b)
 (J:P.funcs[f]?=some (fnAt P f):=by kernel_rfl) (I:(fnAt P f).body=some (abp (fnAt P f)):=by kernel_rfl) (o:((fnAt P f).name== "runtime.NumGoroutine")=false:=by kernel_rfl)
 (G:∀x,alg (xcfg P f A.bs.length calls ps own m) (fnAt P f) (A.args x) (A.st x) (R.get P)=F x:=by intro x;kernel_rfl)
 (t:∀x,(Nat.ble (A.args x).length (fnAt P f).ntmps&&Nat.beq (A.st x).length A.bs.length&&Nat.ble (A.st x).length R.bs.length)=true:=by intro x;kernel_rfl):KC P:=
 ⟨⟨f,A,R,F,dfL R.sh⟩,λx y z=>a3l bcz J I rfl o H G t x y z⟩
def xf{P:Program}(f:FuncId)(A R:AFrame)(F:A.ty->Option R.ty)(calls:List (KC P))(m:List LoopE)(G:∀b,b∈aaq (abp (fnAt P f))->LoopOk (xcfg P f A.bs.length calls [] false m) b)
 (I:P.funcs[f]?=some (fnAt P f):=by kernel_rfl) (H:(fnAt P f).body=some (abp (fnAt P f)):=by kernel_rfl) (o:((fnAt P f).name== "runtime.NumGoroutine")=false:=by kernel_rfl)
 (z:∀x,alg (xcfg P f A.bs.length calls [] false m) (fnAt P f) (A.args x) (A.st x) (R.get P)=F x:=by intro x;kernel_rfl)
 (t:∀x,(Nat.ble (A.args x).length (fnAt P f).ntmps&&Nat.beq (A.st x).length A.bs.length&&Nat.ble (A.st x).length R.bs.length)=true:=by intro x;kernel_rfl):KC P:=xg f A R F calls [] false m G I H o z t
def xj{P:Program}(f:FuncId)(A R:AFrame)(F:A.ty->Option R.ty)(calls:List (KC P))
 (t:(aaq (abp (fnAt P f))).length=0:=by kernel_rfl) (H:P.funcs[f]?=some (fnAt P f):=by kernel_rfl) (G:(fnAt P f).body=some (abp (fnAt P f)):=by kernel_rfl) (m:((fnAt P f).name== "runtime.NumGoroutine")=false:=by kernel_rfl)
 (z:∀x,alg (xcfg P f A.bs.length calls [] false []) (fnAt P f) (A.args x) (A.st x) (R.get P)=F x:=by intro x;kernel_rfl)
 (o:∀x,(Nat.ble (A.args x).length (fnAt P f).ntmps&&Nat.beq (A.st x).length A.bs.length&&Nat.ble (A.st x).length R.bs.length)=true:=by intro x;kernel_rfl):KC P:=xg f A R F calls [] false [] (L0 t) H G m z o
theorem xl{P:Program}{f:FuncId}{np:Nat}{calls:List (KC P)}{ps:List (KP P)}{own:Bool}{m:List LoopE}{body:Code}(l:LoopE)(G:∀b,b∈aaq body->LoopOk (xcfg P f np calls ps own m) b)(z:(Nat.ble np l.H.bs.length&&npX np l.X)=true:=by kernel_rfl)(o:ag4 (xcfg P f np calls ps own m) body l:=by intro x;kernel_rfl)
 (t:∀(R:Type)(e:Env)(st:List BX)(K:LEx->Env->List BX->Option R),(xcfg P f np calls ps own m).lam R (aeg body) e st K=(l.H.dec P e st).bind λx=>(aad 0 l.step x).bind λy=>kX l.X y K:=by intro R e st K;kernel_rfl):LoopOk (xcfg P f np calls ps own m) body:=okL bcz 0 l G z o t
end Go.Ab
