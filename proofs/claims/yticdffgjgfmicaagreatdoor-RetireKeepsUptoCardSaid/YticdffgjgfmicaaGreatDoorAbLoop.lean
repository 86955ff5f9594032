/- Loops by steps, calls by entries. -/
import Derived.Test.YticdffgjgfmicaaGreatDoorAbCode
import Derived.KernelRfl
set_option linter.unusedVariables false
set_option linter.unusedSimpArgs false
set_option linter.unnecessarySimpa false
namespace Go.Ab
open Go
section
variable{Γ:Ctx}{D:Dom}{ow:Own}{μ:Nat->Nat}{st st':List BX}{bs:List BSh}{w:World}{P:Program}
theorem ale{s:SV}{v:Value}(f:StFit P st bs bs st st')(h:SRep P D w ow μ st s v)(m:amq bs s=true):SRep P D w (owTo ow bs.length) μ st' s v:=by
 unfold amq at m;split at m
 ·rename_i k p T;unfold bij at m;split at m
  ·rename_i J p' o;obtain⟨s,W,H,V,I,z,G,M⟩:=f.box _ _ _ o;cases h with
   |ref t O=>rw[z]at t;cases t;exact .ref M O
  ·cases m
 ·rename_i k;unfold bjg at m;split at m
  ·rename_i K E o;obtain⟨es,z,G⟩:=f.map _ _ _ o;cases h with
   |mref t=>rw[z]at t;cases t;exact .mref G
  ·cases m
 ·rename_i k;unfold bji at m;split at m
  ·rename_i K E o;obtain⟨es,z,G⟩:=f.mit _ _ _ o;cases h with
   |mitr t=>exact .mitr z
  ·cases m
 ·rename_i k;unfold bfu at m;split at m
  ·rename_i o;obtain⟨U,p0,z,G⟩:=f.iter _ o;cases h with
   |iref t=>exact .iref G
  ·cases m
 ·rename_i k T;unfold bii at m;split at m
  ·rename_i J o;obtain⟨U,z,G⟩:=f.bld _ _ o;cases h with
   |bref t=>exact .bref G
  ·cases m
 ·cases h;exact .nils
 ·cases m
theorem asf{k m:Nat}{E:TypeId}(h:ase bs k m E=true):bs[k]?=some (.arr E m)/\k<bs.length:=by
 unfold ase at h;split at h
 ·rename_i t o z;simp only[Ai]at h;grind[Nat.eq_of_beq_eq_true,List.getElem?_eq_some_iff]
 ·cases h
theorem axa{k V g z:Nat}{E m:TypeId}{v:Value}(f:StFit P st bs bs st st')(h:SRep P D w ow μ st (.arr V g m) v)(M:(Nat.beq k V&&Nat.beq E m&&afu st k g&&ase bs k z E)=true):SRep P D w (owTo ow bs.length) μ st' (.arr k z E) v:=by
 simp only[Ai]at M;obtain⟨⟨⟨X,Y⟩,h3⟩,Z⟩:=M;have:=Ag X;subst this;have:=Ag Y;subst this;obtain⟨G,H⟩:=asf Z;obtain⟨xs,W,q2⟩:=f.arr k E z G;have O:∀{m:TypeId}{o:Nat}{ys:List PV},st[k]?=some (.arr m o ys)->g=o:=by grind[afu,Nat.eq_of_beq_eq_true]
 have U:∀{m:TypeId}{o:Nat}{ys:List PV},st[k]?=some (.arr m o ys)->ys=xs:=by grind
 cases h with
 |arrOld t aa=>grind
 |arrNil t=>have:=U t;subst this;exact .arrNil W
 |arr t I J hc ho hs=>have:=U t;subst this;exact .arr W I J hc (owTo_some.2 ⟨ho,H⟩) hs
theorem adk{sh:Shape}{s Y:SV}{v:Value}(f:StFit P st bs bs st st')(h:SRep P D w ow μ st s v)(m:alh P st bs sh s=some Y):SRep P D w (owTo ow bs.length) μ st' Y v:=by
 have z:∀k,bb6 bs k=true->bs[k]?=some .acc/\k<bs.length:=by grind[bb6,List.getElem?_eq_some_iff]
 unfold alh at m;split at m
 ·rename_i k E;split at m
  ·rename_i k' g Z xs;obtain⟨o,rfl⟩:=aaz m;simp only[Ai]at o;obtain⟨⟨⟨J,X⟩,h3⟩,h4⟩:=o;have:=Ag J;subst this;have:=Ag X;subst this;obtain⟨t,G⟩:=z _ h4;cases h with
   |@acc _ _ g0 _ _ _ hr hk hg O=>
    refine .acc hr (f.acc _ t).1 (Nat.le_refl _) (λ_=>?_);have M:g=g0:=by grind[aor,Nat.eq_of_beq_eq_true]
    rcases O M with O|⟨b,off,cap,I,V,H,W,q4,q5,q6,q7⟩
    ·exact Or.inl O
    ·exact Or.inr ⟨b,off,cap,I,V,H,W,q4,q5,owTo_some.2 ⟨q6,G⟩,q7⟩
  ·obtain⟨o,rfl⟩:=aaz m;obtain⟨t,G⟩:=z _ o;cases h;exact .acc (.nil λ_=>rfl) (f.acc _ t).1 (Nat.le_refl _) (λ_=>Or.inl ⟨_,rfl⟩)
  ·cases m
 ·split at m
  ·cases m;cases h;exact .slice (.nil λ_=>rfl)
  ·exact ab8 h m _ _ _
 ·split at m
  ·rename_i k fl E;split at m
   ·rename_i k' g Z;obtain⟨o,rfl⟩:=aaz m;grind[axa]
   ·obtain⟨o,rfl⟩:=aaz m;simp only[Ai]at o;obtain⟨t,G⟩:=asf o.1;obtain⟨xs,V,H⟩:=f.arr k E fl t;have aa:=At o.2;rcases H with⟨g1,H,_⟩|⟨_,W⟩
    ·grind
    ·subst W;cases h;exact .arrNil V
   ·cases m
  ·split at m
   ·obtain⟨o,rfl⟩:=aaz m;rw[Ai]at o;have:=Ag o.1;subst this;cases h with
    |ifc h=>exact .ifc (axa f h o.2)
   ·cases m
  ·obtain⟨o,rfl⟩:=aaz m;unfold auh at o;split at o
   ·rename_i fn n cs;cases h with
    |fn h0 J X=>refine .fn h0 J (λi s v hi hv=>?_);grind[ale,List.all_eq_true,List.mem_of_getElem?]
   grind[ale]
 ·split at m
  ·rename_i T x;split at m
   ·rename_i y U;cases m;cases h with
    |ifc h=>exact .ifc (ab8 h U _ _ _)
   ·cases m
  ·cases m
 ·split at m
  ·cases m;cases h with
   |ifc h=>cases h;exact .ifc (.slice (.nil λ_=>rfl))
  ·split at m
   ·rename_i y U;cases m;cases h with
    |ifc h=>exact .ifc (ab8 h U _ _ _)
   ·cases m
  ·cases m
 ·exact ab8 h m _ _ _
theorem a9s{m:Shape}{s:SV}:alh P st bs m (.pan s)=none:=by
 cases m with
 |con c=>cases c<;>simp[alh,auh,amq];grind
 |_=>simp[alh,canon]
mutual
theorem anr(f:StFit P st bs bs st st'):∀(p:Pat)(s:SV)(t:List Shape)(z:List SV)(o:List Shape)(m:List SV)(v:Value),ahv P st bs p s t=some (z,o)->SRep P D w ow μ st s v->SRep P D w (owTo ow bs.length) μ st' (p.build (z++m)).1 v
 |.leaf,s,sh::t,z,o,m,v,h,G=>by
  simp only[ahv]at h;split at h
  ·rename_i x I;simp only[Aj,Prod.mk.injEq]at h;obtain⟨rfl,rfl⟩:=h;exact adk f G I
  ·cases h
 |.leaf,s,[],z,o,m,v,h,G=>by simp[ahv]at h
 |.agg T ps,s,t,z,o,m,v,h,G=>by
  simp only[ahv]at h;split at h
  ·rename_i J O;have H:=amm G O;obtain⟨Y,Z⟩:=alj f ps J t z o m h;cases H with
   |agg M V W hv hp=>refine .agg M V W (by grind) (λi x X I U=>?_);grind
  ·cases h
theorem alj(f:StFit P st bs bs st st'):∀(ps:List Pat)(ss:List SV)(t:List Shape)(G:List SV)(o:List Shape)(m:List SV),afa P st bs ps ss t=some (G,o)->
 (ajs ps (G++m)).1.length=ss.length/\∀(i:Nat)(x:SV)(u:Value),(ajs ps (G++m)).1[i]?=some x->(∀y,ss[i]?=some y->SRep P D w ow μ st y u)->SRep P D w (owTo ow bs.length) μ st' x u
 |[],[],t,G,o,m,h=>by refine⟨rfl,λi x u I=>?_⟩;simp[ajs]at I
 |[],_::_,t,G,o,m,h=>by simp[afa]at h
 |_::_,[],t,G,o,m,h=>by simp[afa]at h
 |p::ps,s::ss,t,G,o,m,h=>by
  simp only[afa]at h;split at h
  ·rename_i H z M;split at h
   ·rename_i J O U;simp only[Aj,Prod.mk.injEq]at h;obtain⟨rfl,rfl⟩:=h;have V:=aih p s t H z (J++m) M;obtain⟨X,Y⟩:=alj f ps ss z J _ m U;simp only[ajs,Ap];rw[V];refine⟨by simp[X],λi x u I W=>?_⟩;cases i with
    |zero=>simp at I;subst I;exact anr f p s t H z (J++m) u M (W s (by simp))
    |succ i=>grind
   ·cases h
  ·cases h
end
theorem StFit.kind(f:StFit P st bs bs st st'){k:Nat}{b:BX}(z:st'[k]?=some b):(∃H,st[k]?=some H/\b.kind=H.kind)\/(st.length<=k):=by
 have G:k<bs.length:=by rw[<-f.len];grind
 have t:bs[k]?=some bs[k]:=Ao G;generalize bs[k]=c at t;cases c with
 |acc=>
  obtain⟨o,m⟩:=f.acc k t;rw[z]at o;cases o;rcases m with⟨g,m⟩|m
  ·exact Or.inl ⟨_,m,rfl⟩
  grind
 |box T p=>obtain⟨s,V,J,U,M,o,m,I⟩:=f.box k T p t;rw[z]at I;cases I;exact Or.inl ⟨_,o,rfl⟩
 |map K E=>obtain⟨es,o,m⟩:=f.map k K E t;grind
 |mit K E=>obtain⟨es,o,c,m⟩:=f.mit k K E t;rw[z]at o;cases o;exact Or.inl ⟨_,m,rfl⟩
 |iter=>obtain⟨s,p,o,m⟩:=f.iter k t;grind
 |bld T=>obtain⟨s,o,m⟩:=f.bld k T t;grind
 |arr E O=>
  obtain⟨s,o,m⟩:=f.arr k E O t;rw[z]at o;cases o;rcases m with⟨g,m,_⟩|⟨m,_⟩
  ·exact Or.inl ⟨_,m,rfl⟩
  grind
theorem StFit.arrBack(f:StFit P st bs bs st st'){k H:Nat}{E:TypeId}{xs:List PV}(I:st'[k]?=some (.arr E H xs))(U:k<st.length):∃g,st[k]?=some (.arr E g xs)/\(H=0->g=0):=by
 have z:k<bs.length:=by rw[<-f.len];grind
 have m:bs[k]?=some bs[k]:=Ao z;generalize bs[k]=c at m;cases c with
 |acc=>rw[(f.acc k m).1]at I;cases I
 |box T p=>obtain⟨s,X,J,V,M,o,t,W⟩:=f.box k T p m;grind
 |map K E=>obtain⟨es,o,t⟩:=f.map k K E m;grind
 |mit K E=>obtain⟨es,o,c,t⟩:=f.mit k K E m;grind
 |iter=>obtain⟨s,p,o,t⟩:=f.iter k m;grind
 |bld T=>obtain⟨s,o,t⟩:=f.bld k T m;grind
 |arr O G=>obtain⟨s,o,t⟩:=f.arr k O G m;all_goals grind
theorem StFit.kept(f:StFit P st bs bs st st'){k:Nat}{b:BX}(I:st[k]?=some b)(m:k<bs.length):∃o,st'[k]?=some o/\o.kind=b.kind:=by have t:st'[k]?=some (st'[k]'(by rw[f.len];exact m)):=Ao _;rcases f.kind t with⟨G,H,z⟩|z;all_goals grind
theorem StFit.arrOn(f:StFit P st bs bs st st'){k g:Nat}{E:TypeId}{xs:List PV}(t:st[k]?=some (.arr E g xs))(o:k<bs.length):∃m,st'[k]?=some (.arr E m xs)/\(m=0->g=0):=by obtain⟨H,z,G⟩:=f.kept t o;obtain⟨m,ys,rfl⟩:=ai9 G;obtain⟨I,J,M⟩:=f.arrBack z (A6.1 t).1;grind
theorem ArrKeep.to{w w':World}{ow m:Own}{μ o:Nat->Nat}{k n:Nat}{E:TypeId}(h:ArrKeep w ow μ w' m o k E)(U:k<n):ArrKeep w ow μ w' (owTo m n) o k E:=by intro t G H;obtain⟨I,J,z,M,O⟩:=h t G H;grind[owTo_some]
theorem ArrKeep.from{w w':World}{ow m:Own}{μ o:Nat->Nat}{k n:Nat}{E:TypeId}(h:ArrKeep w (owTo ow n) μ w' m o k E)(G:k<n):ArrKeep w ow μ w' m o k E:=by intro t z H;exact h t z (owTo_some.2 ⟨H,G⟩)
theorem Objs.fit(f:StFit P st bs bs st st')(h:Objs P D ow μ st w):Objs P D (owTo ow bs.length) μ st' w:=by
 refine⟨λk b G=>?_,λb k ob=>?_,h.dlt,λb k y ob G hy o d=>?_⟩
 ·have I:k<bs.length:=by rw[<-f.len];grind
  have J:bs[k]?=some bs[k]:=Ao I;generalize bs[k]=c at J;have H:∀c,ow c=some k->w.heap[c]?=w.heap[c]?/\owTo ow bs.length c=some k/\∀o,D c o->D c o:=λc oc=>⟨rfl,owTo_some.2 ⟨oc,I⟩,λ_ d=>d⟩;cases c with
  |acc=>rw[(f.acc k J).1]at G;cases G;trivial
  |box T p=>obtain⟨s,vs,X,aa,Z,z,t,h3⟩:=f.box k T p J;rw[h3]at G;cases G;obtain⟨O,T',M,U,W,q4,q5⟩:=h.obj k _ z;exact⟨O,T',M,U,owTo_some.2 ⟨W,I⟩,q4,anr f p s aa vs Z X _ t q5⟩
  |map K E=>obtain⟨es,z,t⟩:=f.map k K E J;rw[t]at G;cases G;obtain⟨ents,clock,kc,vc,M,U,W⟩:=h.obj k _ z;exact⟨ents,clock,kc,vc,M,owTo_some.2 ⟨U,I⟩,W⟩
  |iter=>obtain⟨s,p,z,t⟩:=f.iter k J;rw[t]at G;cases G;exact ObjRep.mono (P:=P) (b:=.iter s p) (h.obj k _ z) (λ_ _ d=>d) (Keeps.refl _ _) (λ_=>rfl) H
  |mit K E=>obtain⟨es,z,c,t⟩:=f.mit k K E J;rw[z]at G;cases G;have h0:=ObjRep.mono (P:=P) (b:=.mit K E c es) (h.obj k _ t) (λ_ _ d=>d) (Keeps.refl _ _) (λ_=>rfl) H;obtain⟨M,U,m,V,c0,Y,W,q4,q5⟩:=h0;exact⟨M,U,m,V,c0,Y,W,q4,λe he=>by cases he⟩
  |bld T=>obtain⟨s,z,t⟩:=f.bld k T J;rw[t]at G;cases G;exact ObjRep.mono (P:=P) (b:=.bld T s) (h.obj k _ z) (λ_ _ d=>d) (Keeps.refl _ _) (λ_=>rfl) H
  |arr E fl=>
   obtain⟨s,z,t⟩:=f.arr k E fl J;rw[z]at G;cases G;rcases t with⟨g,t,_⟩|⟨_,t⟩
   ·have h0:ObjRep P D w ow μ k (.arr E g s):=h.obj k _ t;exact ObjRep.mono (P:=P) (b:=.arr E g s) h0 (λ_ _ d=>d) (Keeps.refl _ _) (λ_=>rfl) H
   ·subst t;exact Or.inl rfl
 ·obtain⟨z,t⟩:=owTo_some.1 ob;exact⟨(h.owlt b k z).1,by rw[f.len];exact t⟩
 ·obtain⟨z,t⟩:=owTo_some.1 ob;rcases f.kind G with⟨b0,M,U⟩|M
  ·exact h.lone b k b0 z M (agj U.symm hy) o d
  ·have:=(h.owlt b k z).2;omega
theorem WRel.frame(t:Γ.np<=bs.length)(f:StFit Γ.P st bs bs st st')(m:WRel Γ D ow μ st w):WRel Γ D (owTo ow bs.length) μ st' w:=by
 have z:=m.objs.fit f;refine⟨λk T s o=>z.obj k _ o,λk K E es o=>z.obj k _ o,λk b o=>?_,z.owlt,m.dlt,m.os,m.tape,m.output,m.hs,m.old,m.dom0,m.domN,λb k U M=>m.owN b k (owTo_some.1 U).1 M,by rw[f.len];exact t,m.mu0,λk o=>?_,z.lone,m.keep0,λk o E xs e=>?_⟩
 ·have:=z.obj k b o;cases b with
  |box T s=>trivial
  |map K E es=>trivial
  |acc g=>trivial
  |hole=>trivial
  |_=>exact this
 ·obtain⟨s,O,W⟩:=m.par k o;obtain⟨V,G,H⟩:=f.kept O (A2 o t);grind
 ·obtain⟨g,G,H⟩:=f.arrBack e (A2 o m.np);have:=H rfl;subst this;obtain⟨I,J⟩:=m.arr0 k o E xs G;exact⟨I,J.to (A2 o t)⟩
theorem Rel.frame{e G:Env}{a:Act}(I:Γ.np<=bs.length)(f:StFit Γ.P st bs bs st st')(H:∀t,G t=.undef\/∃M,alh Γ.P st bs M (e t)=some (G t))(V:Rel Γ e st a w):Rel Γ G st' a w:=by
 obtain⟨D,ow,μ,W,J⟩:=V;refine⟨D,owTo ow bs.length,μ,W.frame I f,J.size,J.defers,λt=>?_⟩
 ·rcases H t with h|⟨M,h⟩
  ·rw[h];exact SRep.slot .undef
  ·have o:=J.slot t;have U:∀u m x,e t≠.gd u m x:=by
    intro u m x O;rw[O]at h;unfold alh at h;grind[canon,auh,amq]
   have z:SRep Γ.P D w ow μ st (e t) (a.tmps.getD t Go.undef):=by
    cases H:e t with
    |gd u m x=>grind
    |_=>rw[H]at o;exact o
   exact(adk f z h).slot
theorem Frame.dec_spec{F:Frame}{e:Env}{x:F.ty}(h:F.dec P e st=some x):StFit P st F.bs F.bs st (F.st x)/\∀t,F.env x t=.undef\/∃M,alh P st F.bs M (e t)=some (F.env x t):=by
 unfold Frame.dec at h;split at h
 ·rename_i m z G H;have I:=awu _ _ _ h;obtain⟨l,V⟩:=arz _ _ _ G;have W:=aqc _ _ _ _ H;have O:F.st x=toSt F.bs z:=by
   grind[Frame.st,List.drop_left]
  have U:F.env x=ak6 F.slots m:=by
   unfold Frame.env;rw[<-I];have:∀(o:List Nat)(m z:List SV),m.length=o.length->ak6 o (m++z)=ak6 o m:=by
    intro o;induction o with
    |nil=>grind[ak6]
    |cons t o X=>
     intro m z J;cases m with
     |nil=>simp at J
     |cons v m=>simp_all[A0,ak6]
   grind
  simp_all
 ·cases h
theorem Frame.dec_sound{F:Frame}{e:Env}{x:F.ty}{a:Act}(m:Γ.P=P)(o:Γ.np<=F.bs.length)(h:F.dec P e st=some x)(G:Rel Γ e st a w):Rel Γ (F.env x) (F.st x) a w:=by subst m;obtain⟨t,z⟩:=Frame.dec_spec h;grind[Rel.frame]
theorem Frame.dec_pan{F:Frame}{e:Env}{x:F.ty}{v:Value}{a:Act}(z:Γ.P=P)(m:Γ.np<=F.bs.length)(h:F.dec P e st=some x)(H:PRel Γ (e 0) st v a w):PRel Γ (F.env x 0) (F.st x) v a w:=by
 subst z;obtain⟨o,t⟩:=Frame.dec_spec h;obtain⟨G,D,ow,μ,I,J⟩:=H;refine⟨G,D,owTo ow F.bs.length,μ,I.frame m o,?_⟩;rcases t 0 with h|⟨M,h⟩
 ·rw[h];exact .undef
 grind[adk]
end
def arx:LEx->LEx->Bool
 |.exit i,.exit j=>Nat.beq i j
 |.ret,.ret=>true
 |.pan,.pan=>true
 |_,_=>false
theorem aja{x y:LEx}(h:arx x y=true):x=y:=by unfold arx at h;grind[Nat.eq_of_beq_eq_true]
@[reducible] def XTy:List (LEx×Frame)->Type
 |[]=>Empty
 |[x]=>x.2.ty
 |x::y::r=>x.2.ty⊕XTy (y::r)
def decX(P:Program):(X:List (LEx×Frame))->LEx->Env->List BX->Option (XTy X)
 |[],_,_,_=>none
 |[x],l,e,st=>bif arx x.1 l then x.2.dec P e st else none
 |x::y::r,l,e,st=>bif arx x.1 l then(match x.2.dec P e st with|some v=>some (.inl v)|none=>none)else(match decX P (y::r) l e st with|some v=>some (.inr v)|none=>none)
def exX:(X:List (LEx×Frame))->XTy X->LEx
 |[x],_=>x.1
 |x::_::_,.inl _=>x.1
 |_::y::r,.inr v=>exX (y::r) v
def envX:(X:List (LEx×Frame))->XTy X->Env
 |[x],v=>x.2.env v
 |x::_::_,.inl v=>x.2.env v
 |_::y::r,.inr v=>envX (y::r) v
def stX:(X:List (LEx×Frame))->XTy X->List BX
 |[x],v=>x.2.st v
 |x::_::_,.inl v=>x.2.st v
 |_::y::r,.inr v=>stX (y::r) v
def sumE{α o m:Type}(f:α->m)(g:o->m):α⊕o->m
 |.inl a=>f a
 |.inr b=>g b
def kX{R:Type}:(X:List (LEx×Frame))->XTy X->(LEx->Env->List BX->Option R)->Option R
 |[x],v,K=>K x.1 (x.2.env v) (x.2.st v)
 |x::y::r,v,K=>sumE (λv=>K x.1 (x.2.env v) (x.2.st v)) (λv=>kX (y::r) v K) v
theorem kX_eq{R:Type}:∀(X:List (LEx×Frame))(v:XTy X)(K:LEx->Env->List BX->Option R),kX X v K=K (exX X v) (envX X v) (stX X v):=by
 intro X;induction X with
 |nil=>grind
 |cons x r m=>
  intro v K;cases r with
  |nil=>rfl
  |cons y r=>
   cases v with
   |inl v=>rfl
   |inr v=>exact m v K
def npX(np:Nat)(X:List (LEx×Frame)):Bool:=X.all λx=>Nat.ble np x.2.bs.length
theorem a7r:∀(X:List (LEx×Frame))(v:XTy X),NoGd (envX X v):=by
 intro X;induction X with
 |nil=>grind
 |cons x r m=>
  intro v;cases r with
  |nil=>exact x.2.noGd v
  |cons y r=>
   cases v with
   |inl v=>exact x.2.noGd v
   |inr v=>exact m v
theorem ay3{P:Program}{e:Env}{st:List BX}{l:LEx}:∀(X:List (LEx×Frame))(v:XTy X),decX P X l e st=some v->exX X v=l:=by
 intro X;induction X with
 |nil=>grind
 |cons x r t=>
  intro v h;cases r with
  |nil=>
   simp only[decX]at h;cases m:arx x.1 l with
   |false=>grind
   |true=>exact aja m
  |cons y r=>
   simp only[decX]at h;cases m:arx x.1 l with
   |true=>
    rw[m]at h;simp only[Ad]at h;split at h
    ·cases h;exact aja m
    ·cases h
   |false=>
    rw[m]at h;simp only[Af]at h;split at h
    ·rename_i u o;cases h;exact t u o
    ·cases h
theorem asp{Γ:Ctx}{P:Program}(G:Γ.P=P){w:World}{a:Act}{e:Env}{st:List BX}{l:LEx}:∀(X:List (LEx×Frame))(v:XTy X),npX Γ.np X=true->decX P X l e st=some v->exX X v=l/\(Rel Γ e st a w->Rel Γ (envX X v) (stX X v) a w):=by
 intro X;induction X with
 |nil=>grind
 |cons x r J=>
  intro v H h;have I:Γ.np<=x.2.bs.length:=by simp_all[npX,Bb,Ai]
  cases r with
  |nil=>
   simp only[decX]at h;cases m:arx x.1 l with
   |false=>grind
   |true=>rw[m]at h;exact⟨aja m,λt=>Frame.dec_sound G I h t⟩
  |cons y r=>
   simp only[decX]at h;cases m:arx x.1 l with
   |true=>
    rw[m]at h;simp only[Ad]at h;split at h
    ·rename_i u z;cases h;exact⟨aja m,λt=>Frame.dec_sound G I z t⟩
    ·cases h
   |false=>
    rw[m]at h;simp only[Af]at h;split at h
    ·rename_i u z;cases h;have o:npX Γ.np (y::r)=true:=by
      simp only[npX,Bb,Ai]at H ⊢;exact H.2
     exact J u o z
    ·cases h
theorem bcs{Γ:Ctx}{P:Program}(G:Γ.P=P){w:World}{a:Act}{v0:Value}{e:Env}{st:List BX}{l:LEx}:∀(X:List (LEx×Frame))(v:XTy X),npX Γ.np X=true->decX P X l e st=some v->exX X v=l/\(PRel Γ (e 0) st v0 a w->PRel Γ (envX X v 0) (stX X v) v0 a w):=by
 intro X;induction X with
 |nil=>grind
 |cons x r J=>
  intro v H h;have I:Γ.np<=x.2.bs.length:=by simp_all[npX,Bb,Ai]
  cases r with
  |nil=>
   simp only[decX]at h;cases m:arx x.1 l with
   |false=>grind
   |true=>rw[m]at h;exact⟨aja m,λt=>Frame.dec_pan G I h t⟩
  |cons y r=>
   simp only[decX]at h;cases m:arx x.1 l with
   |true=>
    rw[m]at h;simp only[Ad]at h;split at h
    ·rename_i u z;cases h;exact⟨aja m,λt=>Frame.dec_pan G I z t⟩
    ·cases h
   |false=>
    rw[m]at h;simp only[Af]at h;split at h
    ·rename_i u z;cases h;have o:npX Γ.np (y::r)=true:=by
      simp only[npX,Bb,Ai]at H ⊢;exact H.2
     exact J u o z
    ·cases h
def aei{m o:Type}(step:m->Option (m⊕o)):Nat->m->Option o
 |0,_=>none
 |n+1,x=>
  match step x with
  |none=>none
  |some (.inl x1)=>aei step n x1
  |some (.inr y)=>some y
theorem a4u{o t:Type}{step:o->Option (o⊕t)}:∀(n m:Nat)(x:o)(y:t),aei step n x=some y->n<=m->aei step m x=some y:=by
 intro n;induction n with
 |zero=>grind[aei]
 |succ n G=>intro m x y h z;obtain⟨k,rfl⟩:∃k,m=k+1:=⟨m-1,by omega⟩;grind[aei]
open Classical in
noncomputable def aan{m o:Type}(step:m->Option (m⊕o))(x:m):Option o:=
 if h:∃n y,aei step n x=some y then aei step h.choose x else none
theorem ajc{m o:Type}{step:m->Option (m⊕o)}{x:m}{y:o}(h:aan step x=some y):∃n,aei step n x=some y:=by unfold aan at h;split at h;all_goals grind
theorem aul{m o:Type}{step:m->Option (m⊕o)}{x:m}{y:o}(n:Nat)(h:aei step n x=some y):aan step x=some y:=by unfold aan;have t:∃n y,aei step n x=some y:=⟨n,y,h⟩;rw[dif_pos t];grind[a4u,max,Nat.le_max_right,Nat.le_max_left]
theorem alg{z H:Type}(step:z->Option (z⊕H))(x:z):aan step x=(match step x with|none=>none|some (.inl x1)=>aan step x1|some (.inr y)=>some y):=by
 cases G:step x with
 |none=>
  cases o:aan step x with
  |none=>rfl
  |some y=>
   obtain⟨n,m⟩:=ajc o;cases n with
   |zero=>simp[aei]at m
   |succ n=>grind[aei]
 |some s=>
  cases s with
  |inr y=>exact aul 1 (by simp[aei,G])
  |inl x1=>
   show _=aan step x1;cases o:aan step x1 with
   |some y=>obtain⟨n,m⟩:=ajc o;exact aul (n+1) (by simp[aei,G,m])
   |none=>
    cases t:aan step x with
    |none=>rfl
    |some y=>
     obtain⟨n,m⟩:=ajc t;cases n with
     |zero=>simp[aei]at m
     |succ n=>grind[aei,aul]
theorem aal{m o:Type}{step:m->Option (m⊕o)}{x x1:m}(h:step x=some (.inl x1)):aan step x=aan step x1:=by rw[alg,h]
theorem aae{m o:Type}{step:m->Option (m⊕o)}{x:m}{y:o}(h:step x=some (.inr y)):aan step x=some y:=by rw[alg,h]
noncomputable def aad{o t:Type}(m:Nat)(step:o->Option (o⊕t))(x:o):Option t:=
 match m with
 |0=>aan step x
 |n+1=>aei step (n+1) x
theorem a4t{o t:Type}{m:Nat}{step:o->Option (o⊕t)}{x:o}{y:t}(h:aad m step x=some y):∃n,aei step n x=some y:=by unfold aad at h;grind[ajc]
theorem aas{m o:Type}(step:m->Option (m⊕o))(x:m):aad 0 step x=aan step x:=rfl
structure LoopE where
 key:Nat
 H:Frame
 X:List (LEx×Frame)
 step:H.ty->Option (H.ty⊕XTy X)
noncomputable def bjb(P:Program)(m:Nat):List LoopE->(R:Type)->Nat->Env->List BX->(LEx->Env->List BX->Option R)->Option R
 |[],_,_,_,_,_=>none
 |l::r,R,key,e,st,K=>bif Nat.beq l.key key then(l.H.dec P e st).bind λx=>(aad m l.step x).bind λy=>kX l.X y K else bjb P m r R key e st K
def bbc{m o:Type}(x:Option m):Option (m⊕o):=match x with|some v=>some (.inl v)|none=>none
def avj{o m:Type}(x:Option m):Option (o⊕m):=match x with|some v=>some (.inr v)|none=>none
def agz(C:Cfg)(body:Code)(l:LoopE):Prop:=
 ∀(x:l.H.ty),exec C body { norm:=λe st=>bbc (l.H.dec C.P e st),exit:=λi e st=>avj (decX C.P l.X (.exit i) e st),ret:=λe st=>avj (decX C.P l.X .ret e st),pan:=λs st=>avj (decX C.P l.X .pan (λt=>bif Nat.beq t 0 then s else .undef) st) } (l.H.env x) (l.H.st x)=l.step x
theorem azt{C:Cfg}(Z:acw C){body:Code}{l:LoopE}(hL:∀b,b∈aar body->LoopOk C b)(ab:Nat.ble C.np l.H.bs.length=true)(hX:npX C.np l.X=true)(o:agz C body l):
 ∀(n:Nat)(x:l.H.ty)(y:XTy l.X),aei l.step n x=some y->a05 C body n (l.H.env x) (l.H.st x) (exX l.X y) (envX l.X y) (stX l.X y):=by
 intro n
 induction n with
 |zero=>grind[aei]
 |succ n ih=>
  intro x y h
  have W:=o x
  cases M:l.step x with
  |none=>grind[aei]
  |some s=>
   rw[M]at W
   refine a4v Z hL W (λO t m U=>?_) (λi O t m U=>?_) (λO t m U=>?_) (λs1 t m=>?_)
   ·simp only[bbc]at m;split at m
    ·rename_i x1 Y;cases m;simp only[aei,M]at h;intro Γ J V I Q a w hr aa hQ;exact ih x1 y h Γ J V I Q a w (Frame.dec_sound J (by simp_all) Y hr) (l.H.noGd x1) hQ
    ·cases m
   ·simp only[avj]at m;grind[aei,Option.some.injEq,ay3,asp]
   ·simp only[avj]at m;grind[aei,Option.some.injEq,ay3,asp]
   ·simp only[avj]at m;split at m
    ·rename_i z G;cases m;simp only[aei,M,Aj]at h;subst h;exact⟨ay3 l.X z G,λΓ v a w J V hp=>(bcs (a:=a) (w:=w) (v0:=v) J l.X z (by grind) G).2 hp⟩
    ·cases m
theorem a9q{C:Cfg}(U:acw C){body:Code}(t:Nat)(l:LoopE)(V:∀b,b∈aar body->LoopOk C b)(m:(Nat.ble C.np l.H.bs.length&&npX C.np l.X)=true)(o:agz C body l)
 (z:∀(R:Type)(e:Env)(st:List BX)(K:LEx->Env->List BX->Option R),C.lam R (aec body) e st K=(l.H.dec C.P e st).bind λx=>(aad t l.step x).bind λy=>kX l.X y K):LoopOk C body:=by
 simp only[Ai]at m
 refine LoopOk.one λR e st K r h=>?_
 rw[z]at h
 simp only[Bg]at h
 obtain⟨x,O,y,I,J⟩:=h
 rw[kX_eq]at J
 obtain⟨n,I⟩:=a4t I
 refine⟨exX l.X y,envX l.X y,stX l.X y,n,J,a7r _ _,?_⟩
 intro Γ M Y G Q a w Z hg W
 exact azt U V m.1 m.2 o n x y I Γ M Y G Q a w (Frame.dec_sound M (by simp_all) O Z) (l.H.noGd x) W
structure AFrame where
 n:Nat
 bs:List BSh
 sh:List Shape
@[reducible] def AFrame.ty(A:AFrame):Type:=TyL A.sh
def AFrame.args(A:AFrame)(x:A.ty):List SV:=(encL A.sh x).take A.n
def AFrame.st(A:AFrame)(x:A.ty):List BX:=toSt A.bs ((encL A.sh x).drop A.n)
def aje(P:Program)(st:List BX)(bs:List BSh):List SV->List Shape->Option (List SV)
 |[],_=>some []
 |s::ss,sh::shs=>match alh P st bs sh s,aje P st bs ss shs with|some v,some vs=>some (v::vs)|_,_=>none
 |_::_,[]=>none
def AFrame.get(A:AFrame)(P:Program)(m:List SV)(st:List BX):Option A.ty:=
 bif Nat.beq m.length A.n then
  match aje P st A.bs m A.sh,afp P st A.bs A.bs st (A.sh.drop A.n)with
  |some t,some o=>getL A.sh (t++o)
  |_,_=>none
 else none
theorem aux{P:Program}{st:List BX}{bs:List BSh}:∀(o:List SV)(m:List Shape)(t:List SV),aje P st bs o m=some t->t.length=o.length/\∀(i:Nat)(x:SV),t[i]?=some x->∃y z,o[i]?=some y/\alh P st bs z y=some x:=by
 intro o;induction o with
 |nil=>grind[aje]
 |cons s ss G=>
  intro m t h;cases m with
  |nil=>simp[aje]at h
  |cons z m=>grind[aje]
theorem AFrame.get_spec{P:Program}{A:AFrame}{m:List SV}{st:List BX}{x:A.ty}(h:A.get P m st=some x):m.length=A.n/\StFit P st A.bs A.bs st (A.st x)/\(A.args x).length=m.length/\∀(i:Nat)(s:SV),(A.args x)[i]?=some s->∃y t,m[i]?=some y/\alh P st A.bs t y=some s:=by
 unfold AFrame.get at h;cases o:Nat.beq m.length A.n with
 |false=>grind
 |true=>rw[o]at h;have z:=Ag o;simp only[Ad]at h;grind[awu,aux,aqc,toSt,AFrame.st,List.drop_left,AFrame.args,List.take_left]
theorem Meets.enter{P:Program}{A:AFrame}{f:FuncId}{Z:List SV}{st:List BX}{x:A.ty}(h:A.get P Z st=some x)(I:st.length<=A.bs.length){rs:List SV}{st':List BX}(hm:Meets P f (A.args x) (A.st x) rs st'):Meets P f Z st rs st':=by
 obtain⟨h1,O,h3,h4⟩:=AFrame.get_spec h;refine⟨hm.1,λD ow μ w G z=>?_⟩;have M:Pre P D (owTo ow A.bs.length) μ (A.st x) w (A.args x) G:=by
  refine⟨by rw[z.size,h3],λi s v hs hv=>?_,z.objs.fit O,λp m g hg=>?_⟩
  ·obtain⟨y,sh,hy,hl⟩:=h4 i s hs;exact adk O (z.arg i y v hy hv) hl
  ·obtain⟨U,q2⟩:=z.tabs p m g hg;grind[owTo]
 refine(hm.2 D _ μ w G M).mono λe w'⟨v,D',he,m⟩=>⟨v,D',he,m.dom,λb o d=>?_,?_,m.os,m.tape,m.output,m.size,λb V hn=>m.old b V (by simp[owTo,hn]),m.keeps⟩
 ·rcases m.new b o d with d|d|d;all_goals grind[owTo]
 ·obtain⟨X,Y,J⟩:=m.rest;refine⟨X,Y,J.objs,J.res,λb k V t=>(owTo_some.1 (J.own b k V t)).1,λk b H=>?_,λk E g xs ys H W=>?_⟩
  ·obtain⟨b1,U,q2⟩:=O.kept H (A2 (A6.1 H).1 I);obtain⟨b2,r1,r2,r3⟩:=J.keep k b1 U;grind[agj,aw1]
  ·have t:=A2 (A6.1 H).1 I;obtain⟨fl,U,q2⟩:=O.arrOn H t;obtain⟨r1,r2⟩:=J.same k E fl xs ys U W;exact⟨r1,r2.from t⟩
theorem Post.leave{P:Program}{A:AFrame}{D:Dom}{w:World}{ow:Own}{μ:Nat->Nat}{st:List BX}{rs:List SV}{s:List BX}{v:Value}{D':Dom}{w':World}{y:A.ty}(h:A.get P rs s=some y)(W:st.length<=A.bs.length)(o:Post P D w ow μ st rs s v D' w'):Post P D w ow μ st (A.args y) (A.st y) v D' w'/\ah9 (A.args y) v=ah9 rs v:=by
 obtain⟨h1,h2,h3,h4⟩:=AFrame.get_spec h;obtain⟨Z,aa,O⟩:=o.rest;have ae:∀s0,rs≠[.pan s0]:=by rintro s0 rfl;obtain⟨s1,Y⟩:=List.length_eq_one_iff.1 (show(A.args y).length=1 by rw[h3];rfl);obtain⟨z,sh,hz,X⟩:=h4 0 s1 (by simp[*]);grind[a9s]
 rcases ab7 O.res with⟨s0,e,_⟩|⟨_,I,U⟩
 ·grind
 have H:SRep P D' w' (owTo Z A.bs.length) aa (A.st y) (adp (A.args y)) v:=by
  have m:=I;by_cases V:rs.length=1
  ·obtain⟨s0,rfl⟩:=List.length_eq_one_iff.1 V;obtain⟨s1,Y⟩:=List.length_eq_one_iff.1 (show(A.args y).length=1 by omega);rw[Y]at h4 ⊢;obtain⟨z,sh,hz,X⟩:=h4 0 s1 rfl;simp at hz;subst hz;exact adk h2 m X
  ·have e1:∀l:List SV,l.length≠1->adp l=.tup l:=by
    intro l V;match l,V with
    |[],_=>rfl
    |[x],V=>grind
    |x::y::r,_=>rfl
   rw[e1 rs V]at m;rw[e1 _ (by omega)];cases m with
   |tup hs ad=>refine .tup (by omega) (λi x u hx hu=>?_);grind[adk]
 obtain⟨J,t⟩:=agw H;refine⟨⟨o.dom,o.new,?_,o.os,o.tape,o.output,o.size,o.old,o.keeps⟩,t.trans U.symm⟩;refine⟨owTo Z A.bs.length,aa,O.objs.fit h2,J,λb k hb G=>O.own b k (owTo_some.1 hb).1 G,λk b M=>?_,λk E g xs ys M ab=>?_⟩
 ·obtain⟨b1,q1,q2,q3⟩:=O.keep k b M;obtain⟨b2,r1,r2⟩:=h2.kept q1 (A2 (A6.1 M).1 W);grind
 ·have G:=A2 (A6.1 M).1 W;obtain⟨b1,p1,p2,_⟩:=O.keep k _ M;obtain⟨g1,q1,q2⟩:=h2.arrBack ab (A6.1 p1).1;have:=q2 rfl;subst this;obtain⟨r1,r2⟩:=O.same k E g xs ys M q1;exact⟨r1,r2.to G⟩
theorem Post.leaveP{P:Program}{A:AFrame}{D:Dom}{w:World}{ow:Own}{μ:Nat->Nat}{st:List BX}{s0:SV}{s:List BX}{v:Value}{D':Dom}{w':World}{y:A.ty}(h:A.get P [s0] s=some y)(H:st.length<=A.bs.length)(m:Post P D w ow μ st [.pan s0] s v D' w'):Post P D w ow μ st [.pan ((A.args y).headD .undef)] (A.st y) v D' w':=by
 obtain⟨h1,I,h3,h4⟩:=AFrame.get_spec h;obtain⟨U,W,G⟩:=m.rest;refine⟨m.dom,m.new,?_,m.os,m.tape,m.output,m.size,m.old,m.keeps⟩;obtain⟨s1,O⟩:=List.length_eq_one_iff.1 (show(A.args y).length=1 by rw[h3];rfl);obtain⟨z,sh,X,M⟩:=h4 0 s1 (by simp[*]);simp at X;subst X;rw[O];refine⟨owTo U A.bs.length,W,G.objs.fit I,adk I G.res M,λb k hb o=>G.own b k (owTo_some.1 hb).1 o,λk b t=>?_,λk E g xs ys t J=>?_⟩
 ·obtain⟨b1,V,Y,q3⟩:=G.keep k b t;obtain⟨b2,Z,r2⟩:=I.kept V (A2 (A6.1 t).1 H);grind
 ·have o:=A2 (A6.1 t).1 H;obtain⟨b1,p1,p2,_⟩:=G.keep k _ t;obtain⟨g1,V,Y⟩:=I.arrBack J (A6.1 p1).1;have:=Y rfl;subst this;obtain⟨Z,r2⟩:=G.same k E g xs ys t V;exact⟨Z,r2.to o⟩
structure CallE where
 f:FuncId
 A:AFrame
 R:AFrame
 F:A.ty->Option R.ty
 dflt:R.ty
def CallE.Ok(P:Program)(c:CallE):Prop:=∀(x:c.A.ty)(y:c.R.ty),c.F x=some y->Meets P c.f (c.A.args x) (c.A.st x) (c.R.args y) (c.R.st y)
structure CallP where
 f:FuncId
 A:AFrame
 R:AFrame
 X:AFrame
 F:A.ty->Option (R.ty⊕X.ty)
 dflt:R.ty
def CallP.Ok(P:Program)(c:CallP):Prop:=∀(x:c.A.ty),(∀(y:c.R.ty),c.F x=some (.inl y)->Meets P c.f (c.A.args x) (c.A.st x) (c.R.args y) (c.R.st y))/\∀(y:c.X.ty),c.F x=some (.inr y)->Meets P c.f (c.A.args x) (c.A.st x) [.pan ((c.X.args y).headD .undef)] (c.X.st y)
def a3l(P:Program):List CallP->(R:Type)->Bool->FuncId->List SV->List BX->(List SV->List BX->Option R)->Option R
 |[],_,_,_,_,_,_=>none
 |c::r,R,b,f,as,st,K=>
  bif Nat.beq c.f f&&Nat.ble st.length c.A.bs.length then
   match c.A.get P as st with
   |some x=>(bif b then c.F x else some (.inl c.dflt)).bind λy=>sumE (λy=>K (c.R.args y) (c.R.st y)) (λy=>K [.pan ((c.X.args y).headD .undef)] (c.X.st y)) y
   |none=>a3l P r R b f as st K
  else a3l P r R b f as st K
def asm(P:Program)(ps:List CallP):List CallE->(R:Type)->Bool->FuncId->List SV->List BX->(List SV->List BX->Option R)->Option R
 |[],R,b,f,as,st,K=>a3l P ps R b f as st K
 |c::r,R,b,f,as,st,K=>
  bif Nat.beq c.f f&&Nat.ble st.length c.A.bs.length then
   match c.A.get P as st with
   |some x=>(bif b then c.F x else some c.dflt).bind λy=>K (c.R.args y) (c.R.st y)
   |none=>asm P ps r R b f as st K
  else asm P ps r R b f as st K
theorem bch{P:Program}:∀(cs:List CallP),(∀c,c∈cs->c.Ok P)->∀(R:Type)(b:Bool)(f:FuncId)(t:List SV)(st:List BX)(K:List SV->List BX->Option R)(r:R),a3l P cs R b f t st K=some r->
 (b=true->∃rs st',K rs st'=some r/\Meets P f t st rs st')/\∃rs st',K rs st'=some r:=by
 intro cs
 induction cs with
 |nil=>grind[a3l]
 |cons c cs M=>
  intro o R b f t st K r h
  have O:=M (λc J=>o c (List.mem_cons_of_mem _ J)) R b f t st K r
  simp only[a3l]at h
  cases m:(Nat.beq c.f f&&Nat.ble st.length c.A.bs.length)with
  |false=>grind
  |true=>
   rw[m]at h
   simp only[Ai]at m
   have:=Ag m.1;subst this
   simp only[Ad]at h
   split at h
   ·rename_i x I;cases b with
    |true=>
     simp only[Ad,Bg]at h;obtain⟨y,G,z⟩:=h;have H:=o c (by simp) x;cases y with
     |inl y=>exact⟨λ_=>⟨_,_,z,Meets.enter I (At m.2) (H.1 y G)⟩,_,_,z⟩
     |inr y=>exact⟨λ_=>⟨_,_,z,Meets.enter I (At m.2) (H.2 y G)⟩,_,_,z⟩
    |false=>simp only[Af,Aa]at h;exact⟨λh=>absurd h (by decide),_,_,h⟩
   simp_all
theorem av9{C:Cfg}{ps:List CallP}(z:∀c,c∈ps->c.Ok C.P):∀(cs:List CallE),(∀c,c∈cs->c.Ok C.P)->∀(R:Type)(b:Bool)(f:FuncId)(m:List SV)(st:List BX)(K:List SV->List BX->Option R)(r:R),asm C.P ps cs R b f m st K=some r->
 (b=true->∃rs st',K rs st'=some r/\Meets C.P f m st rs st')/\∃rs st',K rs st'=some r:=by
 intro cs
 induction cs with
 |nil=>intro _ R b f m st K r h;exact bch ps z R b f m st K r h
 |cons c cs M=>
  intro o R b f m st K r h
  have O:=M (λc I=>o c (List.mem_cons_of_mem _ I)) R b f m st K r
  simp only[asm]at h
  cases t:(Nat.beq c.f f&&Nat.ble st.length c.A.bs.length)with
  |false=>grind
  |true=>
   rw[t]at h
   simp only[Ai]at t
   have:=Ag t.1;subst this
   simp only[Ad]at h
   split at h
   ·rename_i x J;cases b with
    |true=>simp only[Ad,Bg]at h;obtain⟨y,H,G⟩:=h;refine⟨λ_=>⟨_,_,G,?_⟩,_,_,G⟩;exact Meets.enter J (At t.2) (o c (by simp) x y H)
    |false=>grind
   simp_all
@[reducible] noncomputable def cfg(P:Program)(n np:Nat)(calls:List CallE)(m:List LoopE)(o:Nat)(ps:List CallP:=[])(own:Bool:=false):Cfg:=
 { P:=P,own:=own,n:=n,np:=np,call:=asm P ps calls,lam:=bjb P o m }
theorem akb{P:Program}{n np:Nat}{calls:List CallE}{m:List LoopE}{o:Nat}{ps:List CallP}{own:Bool}(h:∀c,c∈calls->c.Ok P)(z:∀c,c∈ps->c.Ok P):acw (cfg P n np calls m o ps own):=
 λR b f t st K r G=>av9 (C:=cfg P n np calls m o ps own) z calls h R b f t st K r G
theorem bfq{P:Program}:∀c,c∈([]:List CallP)->c.Ok P:=λc h=>by cases h
theorem bim{P:Program}{c:CallP}{cs:List CallP}(h:c.Ok P)(m:∀c,c∈cs->c.Ok P):∀d,d∈c::cs->d.Ok P:=by grind
theorem bh9{P:Program}{n np:Nat}{calls:List CallE}{m:List LoopE}{o:Nat}(h:∀c,c∈calls->c.Ok P):acw (cfg P n np calls m o):=akb h bfq
def lp(c:Code)(i:Nat):Code:=(aar c).getD i .skip
def abp(fn:Func):Code:=match fn.body with|some c=>c|none=>.skip
theorem bje{C:Cfg}{c:Code}(h:(aar c).length=0):∀b,b∈aar c->LoopOk C b:=by grind
theorem a1x{C:Cfg}{c:Code}(n:Nat)(h:(aar c).length=n)(t:∀i,i<n->LoopOk C (lp c i)):∀b,b∈aar c->LoopOk C b:=by intro b m;obtain⟨i,o,rfl⟩:=List.mem_iff_getElem.1 m;grind[lp,List.getElem?_eq_getElem]
theorem loopCut{C:Cfg}{body:Code}(h:∀(R:Type)(e:Env)(st:List BX)(K:LEx->Env->List BX->Option R),C.lam R (aec body) e st K=none):LoopOk C body:=λR e st K r m=>by grind
theorem bio{P:Program}:∀c,c∈([]:List CallE)->c.Ok P:=λc h=>by cases h
theorem bin{P:Program}{c:CallE}{cs:List CallE}(h:c.Ok P)(m:∀c,c∈cs->c.Ok P):∀d,d∈c::cs->d.Ok P:=by grind
theorem a1y {C:Cfg} (z:acw C) {f:FuncId}{fn:Func}{c:Code} (J:C.P.funcs[f]?=some fn) (I:fn.body=some c) (O:fn.ntmps=C.n) (m:(fn.name== "runtime.NumGoroutine")=false) (H:∀ body,body∈aar c->LoopOk C body)
 {A R:AFrame}{F:A.ty->Option R.ty} (G:∀x,ak7 C fn (A.args x) (A.st x) (R.get C.P)=F x) (o:∀x,(Nat.ble (A.args x).length C.n&&Nat.beq (A.st x).length C.np&&Nat.ble (A.st x).length R.bs.length)=true) (x:A.ty) (y:R.ty) (h:F x=some y):
 Meets C.P f (A.args x) (A.st x) (R.args y) (R.st y):=by
 have t:=o x
 simp only[Ai]at t
 exact aha z J I O m H (r:=y) ((G x).trans h) (At t.1.1) (Ag t.1.2) (λrs s M D w ow μ v D' w' U=>U.leave M (At t.2))
def getP(P:Program)(R X:AFrame)(rs:List SV)(st:List BX):Option (R.ty⊕X.ty):=fork rs (bbc (R.get P rs st)) (λs=>avj (X.get P [s] st))
theorem bjh {C:Cfg} (M:acw C) {f:FuncId}{fn:Func}{c:Code} (W:C.P.funcs[f]?=some fn) (V:fn.body=some c) (Y:fn.ntmps=C.n) (o:(fn.name== "runtime.NumGoroutine")=false) (U:∀ body,body∈aar c->LoopOk C body)
 {A R X:AFrame}{F:A.ty->Option (R.ty⊕X.ty)} (O:∀x,ak7 C fn (A.args x) (A.st x) (getP C.P R X)=F x) (H:∀x,(Nat.ble (A.args x).length C.n&&Nat.beq (A.st x).length C.np&&Nat.ble (A.st x).length R.bs.length&&Nat.ble (A.st x).length X.bs.length)=true) (x:A.ty):
 (∀(y:R.ty),F x=some (.inl y)->Meets C.P f (A.args x) (A.st x) (R.args y) (R.st y))/\∀(y:X.ty),F x=some (.inr y)->Meets C.P f (A.args x) (A.st x) [.pan ((X.args y).headD .undef)] (X.st y):=by
 have G:=H x
 simp only[Ai]at G
 refine⟨λy h=>aha M W V Y o U (r:=.inl y) ((O x).trans h) (At G.1.1.1) (Ag G.1.1.2) (λrs s m D w ow μ v D' w' I=>?_),λy h=>aha M W V Y o U (r:=.inr y) ((O x).trans h) (At G.1.1.1) (Ag G.1.1.2) (λrs s m D w ow μ v D' w' I=>?_)⟩
 ·unfold getP at m;have t:=aex m;clear m;rcases t with⟨Z,rfl,m⟩|⟨_,m⟩
  ·simp only[avj]at m;grind
  ·simp only[bbc]at m;split at m
   ·rename_i z J;cases m;exact I.leave J (At G.1.2)
   ·cases m
 ·unfold getP at m;have t:=aex m;clear m;rcases t with⟨Z,rfl,m⟩|⟨_,m⟩
  ·simp only[avj]at m;split at m
   ·rename_i z J;cases m;exact⟨I.leaveP J (At G.2),rfl⟩
   ·cases m
  ·simp only[bbc]at m;grind
end Go.Ab
namespace Go.Ab
open Go
set_option maxRecDepth 100000
noncomputable def limQ{o t:Type}(m:Nat)(G:Nat->o->Option t)(x:o):Option t:=
 match m with
 |0=>open Classical in if h:∃y,∃N,∀n,N<=n->G n x=some y then some (Classical.choose h)else none
 |n+1=>G (n+1) x
theorem a9m{o t:Type}{m:Nat}{G:Nat->o->Option t}{x:o}{y:t}(h:limQ m G x=some y):∃n,G n x=some y:=by
 unfold limQ at h;split at h
 ·split at h
  ·rename_i H;cases h;obtain⟨N,z⟩:=Classical.choose_spec H;exact⟨N,z N (Nat.le_refl _)⟩
  ·cases h
 grind
theorem a4q{o t:Type}{G:Nat->o->Option t}{x:o}{y:t}(N:Nat)(h:∀n,N<=n->G n x=some y):limQ 0 G x=some y:=by have m:∃y,∃N,∀n,N<=n->G n x=some y:=⟨y,N,h⟩;unfold limQ;simp only[m,dif_pos];obtain⟨M,z⟩:=Classical.choose_spec m;rw[<-z (max N M) (Nat.le_max_right _ _),h (max N M) (Nat.le_max_left _ _)]
theorem okLim{P:Program}(E:CallE){m:Nat}{G:Nat->E.A.ty->Option E.R.ty}(t:∀x,E.F x=limQ m G x)(h:∀n,CallE.Ok P ⟨E.f,E.A,E.R,G n,E.dflt⟩):E.Ok P:=by intro x y o;rw[t]at o;obtain⟨n,z⟩:=a9m o;exact h n x y z
theorem bjx{P:Program}{f:FuncId}{A R:AFrame}{d:R.ty}:CallE.Ok P ⟨f,A,R,λ_=>none,d⟩:=λx y h=>by cases h
theorem okE{P:Program}{E:CallE}{C:Cfg}(fn:Func)(t:acw C)(G:∀b,b∈aar (abp fn)->LoopOk C b)(H:C.P=P:=by kernel_rfl)(J:C.P.funcs[E.f]?=some fn:=by kernel_rfl)(I:fn.body=some (abp fn):=by kernel_rfl)
 (M:fn.ntmps=C.n:=by kernel_rfl) (m:(fn.name== "runtime.NumGoroutine")=false:=by kernel_rfl) (z:∀ x,ak7 C fn (E.A.args x) (E.A.st x) (E.R.get C.P)=E.F x:=by intro x;kernel_rfl)
 (o:∀x,(Nat.ble (E.A.args x).length C.n&&Nat.beq (E.A.st x).length C.np&&Nat.ble (E.A.st x).length E.R.bs.length)=true:=by intro x;kernel_rfl):E.Ok P:=by
 subst H
 exact λx y h=>a1y t J I M m G z o x y h
theorem okL{C:Cfg}(G:acw C){body:Code}(m:Nat)(l:LoopE)(I:∀b,b∈aar body->LoopOk C b)(z:(Nat.ble C.np l.H.bs.length&&npX C.np l.X)=true:=by kernel_rfl)(o:agz C body l:=by intro x;kernel_rfl)
 (t:∀(R:Type)(e:Env)(st:List BX)(K:LEx->Env->List BX->Option R),C.lam R (aec body) e st K=(l.H.dec C.P e st).bind λx=>(aad m l.step x).bind λy=>kX l.X y K:=by intro R e st K;kernel_rfl):LoopOk C body:=a9q G m l I z o t
theorem q0{P:Program}:∀c,c∈([]:List CallE)->c.Ok P:=bio
theorem qc{P:Program}{c:CallE}{cs:List CallE}(h:c.Ok P)(m:∀c,c∈cs->c.Ok P):∀d,d∈c::cs->d.Ok P:=bin h m
theorem L0{C:Cfg}{c:Code}(h:(aar c).length=0:=by kernel_rfl):∀b,b∈aar c->LoopOk C b:=bje h
theorem L1{C:Cfg}{c:Code}(a:LoopOk C (lp c 0))(h:(aar c).length=1:=by kernel_rfl):∀b,b∈aar c->LoopOk C b:=a1x 1 h λi m=>by grind
theorem L2{C:Cfg}{c:Code}(a:LoopOk C (lp c 0))(b:LoopOk C (lp c 1))(h:(aar c).length=2:=by kernel_rfl):∀b,b∈aar c->LoopOk C b:=a1x 2 h λi m=>by grind
theorem L3{C:Cfg}{c:Code}(a:LoopOk C (lp c 0))(b:LoopOk C (lp c 1))(d:LoopOk C (lp c 2))(h:(aar c).length=3:=by kernel_rfl):∀b,b∈aar c->LoopOk C b:=a1x 3 h λi m=>by grind
theorem L4{C:Cfg}{c:Code}(a:LoopOk C (lp c 0))(b:LoopOk C (lp c 1))(d:LoopOk C (lp c 2))(e:LoopOk C (lp c 3))(h:(aar c).length=4:=by kernel_rfl):∀b,b∈aar c->LoopOk C b:=a1x 4 h λi m=>by
 match i,m with
 |0,_=>exact a
 |1,_=>exact b
 |2,_=>exact d
 |3,_=>exact e
theorem p0{P:Program}:∀c,c∈([]:List CallP)->c.Ok P:=bfq
theorem pc{P:Program}{c:CallP}{cs:List CallP}(h:c.Ok P)(m:∀c,c∈cs->c.Ok P):∀d,d∈c::cs->d.Ok P:=bim h m
theorem ahi{P:Program}{f:FuncId}{E:TypeId}{xs:List PV}(W:xs=[]->Meets P f [.nils] [] [.nils] [])(O:Meets P f [.sln E xs] [] [.arr 0 1 E] [.arr E 1 xs]):Meets P f [.slice E xs] [] [.arr 0 1 E] [.arr E 1 xs]:=by
 refine⟨O.1,λD ow μ w z t=>?_⟩;obtain⟨v,rfl⟩:∃v,z=#[v]:=by
  have:=t.size;match z,this with
  |⟨[a]⟩,_=>grind
 have I:=t.arg 0 _ v rfl rfl;have G:∀{s:SV},SRep P D w ow μ [] s v->Pre P D ow μ [] w [s] #[v]:=λ{s}h=>⟨rfl,λi s' V hs hv=>by grind,t.objs,t.tabs⟩
 cases I with
 |slice I=>
  have Y:v=.slice none 0 0/\xs=[]\/∃a n c,v=.slice (some a) n c:=by
   cases I with
   |@nil a c X=>cases a with
    |none=>grind
    |some a=>grind
   |mk=>grind
  rcases Y with⟨rfl,rfl⟩|⟨a,n,c,rfl⟩
  ·refine((W rfl).2 D ow μ w _ (G .nils)).mono λe w' Z=>?_;obtain⟨V,D',rfl,m⟩:=Z;obtain⟨J,M,H⟩:=m.rest;refine⟨V,D',rfl,m.dom,m.new,⟨J,M,⟨λk b e=>?_,λb k o=>?_,H.objs.dlt,λb k x o e hx q=>?_⟩,?_,H.own,λk b e=>by simp at e,λk E g xs ys e=>by simp at e⟩,m.os,m.tape,m.output,m.size,m.old,m.keeps⟩
   ·match k,e with
    |0,e=>simp at e;subst e;exact Or.inl rfl
   ·have:=(H.objs.owlt b k o).2;simp at this
   ·have:=(H.objs.owlt b k o).2;simp at this
   ·have U:=H.res;simp only[ah3,adp]at U ⊢;cases U;exact .arrNil rfl
  ·exact O.2 D ow μ w _ (G (.sln I))
structure KC(P:Program) where
 c:CallE
 ok:c.Ok P
structure KP(P:Program) where
 c:CallP
 ok:c.Ok P
def cS{P:Program}:List (KC P)->List CallE
 |[]=>[]
 |k::r=>k.c::cS r
def pS{P:Program}:List (KP P)->List CallP
 |[]=>[]
 |k::r=>k.c::pS r
theorem bik{P:Program}:∀l:List (KC P),∀c,c∈cS l->c.Ok P
 |[]=>q0
 |k::r=>qc k.ok (bik r)
theorem bj2{P:Program}:∀l:List (KP P),∀c,c∈pS l->c.Ok P
 |[]=>p0
 |k::r=>pc k.ok (bj2 r)
def Shape.df:(s:Shape)->s.ty
 |.bool=>false
 |.int _=>0
 |.str=>[]
 |.slice _=>[]
 |.data _=>.bad
 |.map _ _=>[]
 |.acc _ _=>[]
 |.pto _=>.bad
 |.raw=>default
 |.eif=>false
 |.ifc _=>.bad
 |.ifs _ _=>[]
 |.sln _=>[]
 |.con _=>()
def dfL:(l:List Shape)->TyL l
 |[]=>()
 |[s]=>s.df
 |s::t::r=>(s.df,dfL (t::r))
def u2{A B R:Type}(f:A->B->R)(x:A×B):R:=f x.1 x.2
def u3{A B C R:Type}(f:A->B->C->R)(x:A×B×C):R:=f x.1 x.2.1 x.2.2
def u4{A B C D R:Type}(f:A->B->C->D->R)(x:A×B×C×D):R:=f x.1 x.2.1 x.2.2.1 x.2.2.2
def u5{A B C D E R:Type}(f:A->B->C->D->E->R)(x:A×B×C×D×E):R:=f x.1 x.2.1 x.2.2.1 x.2.2.2.1 x.2.2.2.2
def u6{A B C D E F R:Type}(f:A->B->C->D->E->F->R)(x:A×B×C×D×E×F):R:=f x.1 x.2.1 x.2.2.1 x.2.2.2.1 x.2.2.2.2.1 x.2.2.2.2.2
def fnAt (P:Program) (f:FuncId):Func:=(P.funcs[f]?).getD { name:= "",origin:= "",params:=#[],resultTypes:=#[],nfree:=0,ntmps:=0,results:=#[],body:=none,norace:=false,tmpNames:=#[] }
@[reducible] noncomputable def xcfg(P:Program)(f:FuncId)(np:Nat)(calls:List (KC P))(ps:List (KP P))(own:Bool)(m:List LoopE):Cfg:=cfg P (fnAt P f).ntmps np (cS calls) m 0 (pS ps) own
theorem bby{P:Program}{f:FuncId}{np:Nat}{calls:List (KC P)}{ps:List (KP P)}{own:Bool}{m:List LoopE}:acw (xcfg P f np calls ps own m):=akb (bik calls) (bj2 ps)
def xg{P:Program}(f:FuncId)(A R:AFrame)(F:A.ty->Option R.ty)(calls:List (KC P))(ps:List (KP P))(own:Bool)(m:List LoopE)(H:∀b,b∈aar (abp (fnAt P f))->LoopOk (xcfg P f A.bs.length calls ps own m) b)
 (J:P.funcs[f]?=some (fnAt P f):=by kernel_rfl) (I:(fnAt P f).body=some (abp (fnAt P f)):=by kernel_rfl) (o:((fnAt P f).name== "runtime.NumGoroutine")=false:=by kernel_rfl)
 (G:∀x,ak7 (xcfg P f A.bs.length calls ps own m) (fnAt P f) (A.args x) (A.st x) (R.get P)=F x:=by intro x;kernel_rfl)
 (t:∀x,(Nat.ble (A.args x).length (fnAt P f).ntmps&&Nat.beq (A.st x).length A.bs.length&&Nat.ble (A.st x).length R.bs.length)=true:=by intro x;kernel_rfl):KC P:=
 ⟨⟨f,A,R,F,dfL R.sh⟩,λx y z=>a1y bby J I rfl o H G t x y z⟩
def xf{P:Program}(f:FuncId)(A R:AFrame)(F:A.ty->Option R.ty)(calls:List (KC P))(m:List LoopE)(G:∀b,b∈aar (abp (fnAt P f))->LoopOk (xcfg P f A.bs.length calls [] false m) b)
 (I:P.funcs[f]?=some (fnAt P f):=by kernel_rfl) (H:(fnAt P f).body=some (abp (fnAt P f)):=by kernel_rfl) (o:((fnAt P f).name== "runtime.NumGoroutine")=false:=by kernel_rfl)
 (z:∀x,ak7 (xcfg P f A.bs.length calls [] false m) (fnAt P f) (A.args x) (A.st x) (R.get P)=F x:=by intro x;kernel_rfl)
 (t:∀x,(Nat.ble (A.args x).length (fnAt P f).ntmps&&Nat.beq (A.st x).length A.bs.length&&Nat.ble (A.st x).length R.bs.length)=true:=by intro x;kernel_rfl):KC P:=xg f A R F calls [] false m G I H o z t
def xj{P:Program}(f:FuncId)(A R:AFrame)(F:A.ty->Option R.ty)(calls:List (KC P))
 (t:(aar (abp (fnAt P f))).length=0:=by kernel_rfl) (H:P.funcs[f]?=some (fnAt P f):=by kernel_rfl) (G:(fnAt P f).body=some (abp (fnAt P f)):=by kernel_rfl) (m:((fnAt P f).name== "runtime.NumGoroutine")=false:=by kernel_rfl)
 (z:∀x,ak7 (xcfg P f A.bs.length calls [] false []) (fnAt P f) (A.args x) (A.st x) (R.get P)=F x:=by intro x;kernel_rfl)
 (o:∀x,(Nat.ble (A.args x).length (fnAt P f).ntmps&&Nat.beq (A.st x).length A.bs.length&&Nat.ble (A.st x).length R.bs.length)=true:=by intro x;kernel_rfl):KC P:=xg f A R F calls [] false [] (L0 t) H G m z o
theorem xl{P:Program}{f:FuncId}{np:Nat}{calls:List (KC P)}{ps:List (KP P)}{own:Bool}{m:List LoopE}{body:Code}(l:LoopE)(G:∀b,b∈aar body->LoopOk (xcfg P f np calls ps own m) b)(z:(Nat.ble np l.H.bs.length&&npX np l.X)=true:=by kernel_rfl)(o:agz (xcfg P f np calls ps own m) body l:=by intro x;kernel_rfl)
 (t:∀(R:Type)(e:Env)(st:List BX)(K:LEx->Env->List BX->Option R),(xcfg P f np calls ps own m).lam R (aec body) e st K=(l.H.dec P e st).bind λx=>(aad 0 l.step x).bind λy=>kX l.X y K:=by intro R e st K;kernel_rfl):LoopOk (xcfg P f np calls ps own m) body:=okL bby 0 l G z o t
end Go.Ab
