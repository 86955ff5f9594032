/- Loops by steps, calls by entries. -/
import Derived.Test.YtcpkdafleaddlaaGreatDoorAbFrame
import Derived.KernelRfl
set_option linter.unusedVariables false
set_option linter.unusedSimpArgs false
set_option linter.unnecessarySimpa false
namespace Go.Ab
open Go
section
variable {Γ:Ctx}{D:Dom}{ow:Own}{μ:Nat->Nat}{st st':List BX}{bs:List BSh}{w:World}{P:Program}
theorem akk {s:SV}{v:Value} (f:StFit P st bs bs st st') (h:SRep P D w ow μ st s v) (d:alf bs s=true):SRep P D w (owTo ow bs.length) μ st' s v:=by
 unfold alf at d;split at d
 ·rename_i k p T;unfold bdt at d;split at d
  ·rename_i U p' o;obtain ⟨s,Z,M,Y,O,H,z,V⟩:=f.box _ _ _ o;cases h with
   | ref m W=>rw [H] at m;cases m;exact .ref V W
  ·cases d
 ·rename_i k;unfold beg at d;split at d
  ·rename_i K E o;obtain ⟨es,H,z⟩:=f.map _ _ _ o;cases h with
   | mref m=>rw [H] at m;cases m;exact .mref z
  ·cases d
 ·rename_i k;unfold bbk at d;split at d
  ·rename_i o;obtain ⟨X,p0,H,z⟩:=f.iter _ o;cases h with
   | iref m=>exact .iref z
  ·cases d
 ·rename_i k T;unfold bds at d;split at d
  ·rename_i U o;obtain ⟨X,H,z⟩:=f.bld _ _ o;cases h with
   | bref m=>exact .bref z
  ·cases d
 ·cases h;exact .nils
 ·cases d
theorem adl {sh:Shape}{s s':SV}{v:Value} (f:StFit P st bs bs st st') (h:SRep P D w ow μ st s v) (d:akn P st bs sh s=some s'):SRep P D w (owTo ow bs.length) μ st' s' v:=by
 have H:∀ k,a7z bs k=true->bs[k]?=some .acc/\k<bs.length:=by grind [a7z,List.getElem?_eq_some_iff]
 unfold akn at d;split at d
 ·rename_i k E;split at d
  ·rename_i k' g M xs;obtain ⟨m,rfl⟩:=abm d;simp only [Ai] at m;obtain ⟨⟨⟨V,h2⟩,h3⟩,h4⟩:=m;have:=Af V;subst this;have:=Af h2;subst this;obtain ⟨o,z⟩:=H _ h4;cases h with
   | @acc _ _ O _ _ _ hr X hg Y=>
    refine .acc hr (f.acc _ o).1 (Nat.le_refl _) (λ_=>?_);have ab:g=O:=by grind [apf,Nat.eq_of_beq_eq_true]
    rcases Y ab with Y | ⟨b,cap,aa,U,Z,q3,q4,q5,q6,q7⟩
    ·exact Or.inl Y
    ·exact Or.inr ⟨b,cap,aa,U,Z,q3,q4,q5,owTo_some.2 ⟨q6,z⟩,q7⟩
  ·obtain ⟨m,rfl⟩:=abm d;obtain ⟨o,z⟩:=H _ m;cases h;exact .acc (.nil λ_=>rfl) (f.acc _ o).1 (Nat.le_refl _) (λ_=>Or.inl rfl)
  ·cases d
 ·split at d
  ·cases d;cases h;exact .slice (.nil λ_=>rfl)
  ·exact adk h d _ _ _
 ·split at d
  ·rename_i k fl E;have W:ayh bs k fl E=true->bs[k]?=some (.arr E fl)/\k<bs.length:=by
    intro h;unfold ayh at h;split at h
    ·rename_i M ag m;simp only [Ai] at h;grind [Nat.eq_of_beq_eq_true,List.getElem?_eq_some_iff]
    ·cases h
   split at d
   ·rename_i k' g M;obtain ⟨m,rfl⟩:=abm d;simp only [Ai] at m;obtain ⟨⟨⟨V,h2⟩,h3⟩,h4⟩:=m;have:=Af V;subst this;have:=Af h2;subst this;obtain ⟨o,z⟩:=W h4;obtain ⟨xs,U,Z⟩:=f.arr k E fl o;have af:∀ {M:TypeId}{O:Nat}{ys:List PV},st[k]?=some (.arr M O ys)->g=O:=by
     grind [ags,Nat.eq_of_beq_eq_true]
    have hx:∀ {M:TypeId}{O:Nat}{ys:List PV},st[k]?=some (.arr M O ys)->ys=xs:=by grind
    cases h with
    | arrOld X ai=>grind
    | arrNil X=>have:=hx X;subst this;exact .arrNil U
    | arr X ad ae hc Y hs=>have:=hx X;subst this;exact .arr U ad ae hc (owTo_some.2 ⟨Y,z⟩) hs
   ·obtain ⟨m,rfl⟩:=abm d;simp only [Ai] at m;obtain ⟨o,z⟩:=W m.1;obtain ⟨xs,U,Z⟩:=f.arr k E fl o;have ah:=As m.2;rcases Z with ⟨g1,Z,_⟩ | ⟨_,q3⟩
    ·grind
    ·subst q3;cases h;exact .arrNil U
   ·cases d
  ·obtain ⟨m,rfl⟩:=abm d;unfold arz at m;split at m
   ·rename_i fn n cs;cases h with
    | fn h0 V h2=>refine .fn h0 V (λi s v hi hv=>?_);grind [akk,List.all_eq_true,List.mem_of_getElem?]
   grind [akk]
 ·split at d
  ·rename_i T x;split at d
   ·rename_i y hy;cases d;cases h with
    | ifc h=>exact .ifc (adk h hy _ _ _)
   ·cases d
  ·cases d
 ·exact adk h d _ _ _
theorem a5g {d:Shape}{s:SV}:akn P st bs d (.pan s)=none:=by
 cases d with
 | con c=>cases c<;>simp [akn,arz,alf]
 | _=>simp [akn,ann]
mutual
theorem al7 (f:StFit P st bs bs st st'):∀ (p:Pat) (s:SV) (o:List Shape) (z:List SV) (m:List Shape) (d:List SV) (v:Value),ahh P st bs p s o=some (z,m)->SRep P D w ow μ st s v->SRep P D w (owTo ow bs.length) μ st' (p.build (z++d)).1 v
 | .leaf,s,sh::o,z,m,d,v,h,H=>by
  simp only [ahh] at h;split at h
  ·rename_i x O;simp only [Ak,Prod.mk.injEq] at h;obtain ⟨rfl,rfl⟩:=h;exact adl f H O
  ·cases h
 | .leaf,s,[],z,m,d,v,h,H=>by simp [ahh] at h
 | .agg T Z,s,o,z,m,d,v,h,H=>by
  simp only [ahh] at h;split at h
  ·rename_i fs V;have M:=ala H V;obtain ⟨h1,h2⟩:=akp f Z fs o z m d h;cases M with
   | agg U X Y hv hp=>refine .agg U X Y (by grind) (λi x fd O W=>?_);grind
  ·cases h
theorem akp (f:StFit P st bs bs st st'):∀ (O:List Pat) (ss:List SV) (o:List Shape) (H:List SV) (m:List Shape) (d:List SV),ae3 P st bs O ss o=some (H,m)->
 (ajf O (H++d)).1.length=ss.length/\∀ (i:Nat) (x:SV) (u:Value),(ajf O (H++d)).1[i]?=some x->(∀ y,ss[i]?=some y->SRep P D w ow μ st y u)->SRep P D w (owTo ow bs.length) μ st' x u
 | [],[],o,H,m,d,h=>by refine ⟨rfl,λi x u M=>?_⟩;simp [ajf] at M
 | [],_::_,o,H,m,d,h=>by simp [ae3] at h
 | _::_,[],o,H,m,d,h=>by simp [ae3] at h
 | p::O,s::ss,o,H,m,d,h=>by
  simp only [ae3] at h;split at h
  ·rename_i U z W;split at h
   ·rename_i V Y Z;simp only [Ak,Prod.mk.injEq] at h;obtain ⟨rfl,rfl⟩:=h;have hb:=ah6 p s o U z (V++d) W;obtain ⟨l1,l2⟩:=akp f O ss z V _ d Z;simp only [ajf,Ax];rw [hb];refine ⟨by simp [l1],λi x u M X=>?_⟩;cases i with
    | zero=>simp at M;subst M;exact al7 f p s o U z (V++d) u W (X s (by simp))
    | succ i=>exact l2 i x u (by simpa using M) (λy h=>X y (by simpa using h))
   ·cases h
  ·cases h
end
theorem StFit.kind (f:StFit P st bs bs st st') {k:Nat}{b:BX} (z:st'[k]?=some b):(∃ M,st[k]?=some M/\b.kind=M.kind)\/(st.length<=k):=by
 have H:k<bs.length:=by rw [<-f.len];grind
 have o:bs[k]?=some bs[k]:=An H;generalize bs[k]=c at o;cases c with
 | acc=>
  obtain ⟨m,d⟩:=f.acc k o;rw [z] at m;cases m;rcases d with ⟨g,d⟩ | d
  ·exact Or.inl ⟨_,d,rfl⟩
  grind
 | box T p=>obtain ⟨s,Y,U,X,V,m,d,O⟩:=f.box k T p o;rw [z] at O;cases O;exact Or.inl ⟨_,m,rfl⟩
 | map K E=>obtain ⟨es,m,d⟩:=f.map k K E o;grind
 | iter=>obtain ⟨s,p,m,d⟩:=f.iter k o;grind
 | bld T=>obtain ⟨s,m,d⟩:=f.bld k T o;grind
 | arr E W=>
  obtain ⟨s,m,d⟩:=f.arr k E W o;rw [z] at m;cases m;rcases d with ⟨g,d,_⟩ | ⟨d,_⟩
  ·exact Or.inl ⟨_,d,rfl⟩
  grind
theorem StFit.arrBack (f:StFit P st bs bs st st') {k M:Nat}{E:TypeId}{xs:List PV} (O:st'[k]?=some (.arr E M xs)) (X:k<st.length):∃ g,st[k]?=some (.arr E g xs)/\(M=0->g=0):=by
 have m:k<bs.length:=by rw [<-f.len];grind
 have d:bs[k]?=some bs[k]:=An m;generalize bs[k]=c at d;cases c with
 | acc=>rw [(f.acc k d).1] at O;cases O
 | box T p=>obtain ⟨s,vs,U,Y,V,o,z,Z⟩:=f.box k T p d;grind
 | map K E=>obtain ⟨es,o,z⟩:=f.map k K E d;grind
 | iter=>obtain ⟨s,p,o,z⟩:=f.iter k d;grind
 | bld T=>obtain ⟨s,o,z⟩:=f.bld k T d;grind
 | arr W H=>obtain ⟨s,o,z⟩:=f.arr k W H d;all_goals grind
theorem StFit.kept (f:StFit P st bs bs st st') {k:Nat}{b:BX} (O:st[k]?=some b) (d:k<bs.length):∃ m,st'[k]?=some m/\m.kind=b.kind:=by have o:st'[k]?=some (st'[k]'(by rw [f.len];exact d)):=An _;rcases f.kind o with ⟨H,M,z⟩ | z;all_goals grind
theorem StFit.arrOn (f:StFit P st bs bs st st') {k g:Nat}{E:TypeId}{xs:List PV} (o:st[k]?=some (.arr E g xs)) (m:k<bs.length):∃ d,st'[k]?=some (.arr E d xs)/\(d=0->g=0):=by obtain ⟨M,z,H⟩:=f.kept o m;obtain ⟨d,W,rfl⟩:=aiw H;obtain ⟨O,U,V⟩:=f.arrBack z (A4.1 o).1;grind
theorem ArrKeep.to {w w':World}{ow d:Own}{μ m:Nat->Nat}{k n:Nat}{E:TypeId} (h:ArrKeep w ow μ w' d m k E) (X:k<n):ArrKeep w ow μ w' (owTo d n) m k E:=by intro o H M;obtain ⟨O,U,z,V,W⟩:=h o H M;grind [owTo_some]
theorem ArrKeep.from {w w':World}{ow d:Own}{μ m:Nat->Nat}{k n:Nat}{E:TypeId} (h:ArrKeep w (owTo ow n) μ w' d m k E) (H:k<n):ArrKeep w ow μ w' d m k E:=by intro o z M;exact h o z (owTo_some.2 ⟨M,H⟩)
theorem Objs.fit (f:StFit P st bs bs st st') (h:Objs P D ow μ st w):Objs P D (owTo ow bs.length) μ st' w:=by
 refine ⟨λk b H=>?_,λb k ob=>?_,h.dlt,λb k y ob H hy o d=>?_⟩
 ·have O:k<bs.length:=by rw [<-f.len];grind
  have V:bs[k]?=some bs[k]:=An O;generalize bs[k]=c at V;have M:∀ c,ow c=some k->w.heap[c]?=w.heap[c]?/\owTo ow bs.length c=some k/\∀ o,D c o->D c o:=λc oc=>⟨rfl,owTo_some.2 ⟨oc,O⟩,λ_ d=>d⟩;cases c with
  | acc=>rw [(f.acc k V).1] at H;cases H;trivial
  | box T p=>obtain ⟨s,vs,Y,aa,Z,z,m,h3⟩:=f.box k T p V;rw [h3] at H;cases H;obtain ⟨U,T',W,X,q3,q4,q5⟩:=h.obj k _ z;exact ⟨U,T',W,X,owTo_some.2 ⟨q3,O⟩,q4,al7 f p s aa vs Z Y _ m q5⟩
  | map K E=>obtain ⟨es,z,m⟩:=f.map k K E V;rw [m] at H;cases H;obtain ⟨ents,clock,kc,vc,W,X,q3⟩:=h.obj k _ z;exact ⟨ents,clock,kc,vc,W,owTo_some.2 ⟨X,O⟩,q3⟩
  | iter=>obtain ⟨s,p,z,m⟩:=f.iter k V;rw [m] at H;cases H;exact ObjRep.mono (P:=P) (b:=.iter s p) (h.obj k _ z) (λ_ _ d=>d) (Keeps.refl _ _) (λ_=>rfl) M
  | bld T=>obtain ⟨s,z,m⟩:=f.bld k T V;rw [m] at H;cases H;exact ObjRep.mono (P:=P) (b:=.bld T s) (h.obj k _ z) (λ_ _ d=>d) (Keeps.refl _ _) (λ_=>rfl) M
  | arr E fl=>
   obtain ⟨s,z,m⟩:=f.arr k E fl V;rw [z] at H;cases H;rcases m with ⟨g,m,_⟩ | ⟨_,m⟩
   ·have h0:ObjRep P D w ow μ k (.arr E g s):=h.obj k _ m;exact ObjRep.mono (P:=P) (b:=.arr E g s) h0 (λ_ _ d=>d) (Keeps.refl _ _) (λ_=>rfl) M
   ·subst m;exact Or.inl rfl
 ·obtain ⟨z,m⟩:=owTo_some.1 ob;exact ⟨(h.owlt b k z).1,by rw [f.len];exact m⟩
 ·obtain ⟨z,m⟩:=owTo_some.1 ob;rcases f.kind H with ⟨b0,W,X⟩ | W
  ·exact h.lone b k b0 z W (aga X.symm hy) o d
  ·have:=(h.owlt b k z).2;omega
theorem WRel.frame (o:Γ.np<=bs.length) (f:StFit Γ.P st bs bs st st') (d:WRel Γ D ow μ st w):WRel Γ D (owTo ow bs.length) μ st' w:=by
 have z:=d.objs.fit f;refine ⟨λk T s m=>z.obj k _ m,λk K E es m=>z.obj k _ m,λk b m=>?_,z.owlt,d.dlt,d.os,d.tape,d.output,d.hs,d.old,d.dom0,d.domN,λb k X V=>d.owN b k (owTo_some.1 X).1 V,by rw [f.len];exact o,d.mu0,λk m=>?_,z.lone,d.keep0,λk m E xs e=>?_⟩
 ·have:=z.obj k b m;cases b with
  | box T s=>trivial
  | map K E es=>trivial
  | acc g=>trivial
  | hole=>trivial
  | _=>exact this
 ·obtain ⟨s,W,Z⟩:=d.par k m;obtain ⟨Y,H,M⟩:=f.kept W (Aw m o);grind
 ·obtain ⟨g,H,M⟩:=f.arrBack e (Aw m d.np);have:=M rfl;subst this;obtain ⟨O,U⟩:=d.arr0 k m E xs H;exact ⟨O,U.to (Aw m o)⟩
theorem Rel.frame {e z:Env}{a:Act} (M:Γ.np<=bs.length) (f:StFit Γ.P st bs bs st st') (H:∀ t,z t=.undef\/∃ U,akn Γ.P st bs U (e t)=some (z t)) (X:Rel Γ e st a w):Rel Γ z st' a w:=by
 obtain ⟨D,ow,μ,Y,O⟩:=X;refine ⟨D,owTo ow bs.length,μ,Y.frame M f,O.size,O.defers,λt=>?_⟩
 ·rcases H t with h | ⟨U,h⟩
  ·rw [h];exact SRep.slot .undef
  ·have m:=O.slot t;have W:∀ u d x,e t≠.gd u d x:=by
    intro u d x V;rw [V] at h;unfold akn at h;grind [ann,arz,alf]
   have o:SRep Γ.P D w ow μ st (e t) (a.tmps.getD t Go.undef):=by
    cases H:e t with
    | gd u d x=>grind
    | _=>rw [H] at m;exact m
   exact (adl f o h).slot
theorem Frame.dec_spec {F:Frame}{e:Env}{x:F.ty} (h:F.dec P e st=some x):StFit P st F.bs F.bs st (F.st x)/\∀ t,F.env x t=.undef\/∃ O,akn P st F.bs O (e t)=some (F.env x t):=by
 unfold Frame.dec at h;split at h
 ·rename_i d m o z;have H:=auh _ _ _ h;obtain ⟨l,W⟩:=apq _ _ _ o;have X:=aon _ _ _ _ z;have U:F.st x=toSt F.bs m:=by
   grind [Frame.st,List.drop_left]
  have V:F.env x=aka F.slots d:=by
   unfold Frame.env;rw [<-H];have:∀ (ts:List Nat) (d m:List SV),d.length=ts.length->aka ts (d++m)=aka ts d:=by
    intro ts;induction ts with
    | nil=>grind [aka]
    | cons t ts Y=>
     intro d m M;cases d with
     | nil=>simp at M
     | cons v d=>simp only [Bb,aka];simp_all
   grind
  simp_all
 ·cases h
theorem Frame.dec_sound {F:Frame}{e:Env}{x:F.ty}{a:Act} (d:Γ.P=P) (m:Γ.np<=F.bs.length) (h:F.dec P e st=some x) (H:Rel Γ e st a w):Rel Γ (F.env x) (F.st x) a w:=by subst d;obtain ⟨o,z⟩:=Frame.dec_spec h;grind [Rel.frame]
theorem Frame.dec_pan {F:Frame}{e:Env}{x:F.ty}{v:Value}{a:Act} (z:Γ.P=P) (d:Γ.np<=F.bs.length) (h:F.dec P e st=some x) (M:PRel Γ (e 0) st v a w):PRel Γ (F.env x 0) (F.st x) v a w:=by
 subst z;obtain ⟨m,o⟩:=Frame.dec_spec h;obtain ⟨H,D,ow,μ,O,U⟩:=M;refine ⟨H,D,owTo ow F.bs.length,μ,O.frame d m,?_⟩;rcases o 0 with h | ⟨V,h⟩
 ·rw [h];exact .undef
 grind [adl]
end
def apo:LEx->LEx->Bool
 | .exit i,.exit j=>Nat.beq i j
 | .ret,.ret=>true
 | .pan,.pan=>true
 | _,_=>false
theorem aix {x y:LEx} (h:apo x y=true):x=y:=by unfold apo at h;grind [Nat.eq_of_beq_eq_true]
@[reducible] def XTy:List (LEx×Frame)->Type
 | []=>Empty
 | [x]=>x.2.ty
 | x::y::r=>x.2.ty⊕XTy (y::r)
def decX (P:Program):(X:List (LEx×Frame))->LEx->Env->List BX->Option (XTy X)
 | [],_,_,_=>none
 | [x],l,e,st=>bif apo x.1 l then x.2.dec P e st else none
 | x::y::r,l,e,st=>bif apo x.1 l then (match x.2.dec P e st with | some v=>some (.inl v) | none=>none) else (match decX P (y::r) l e st with | some v=>some (.inr v) | none=>none)
def exX:(X:List (LEx×Frame))->XTy X->LEx
 | [x],_=>x.1
 | x::_::_,.inl _=>x.1
 | _::y::r,.inr v=>exX (y::r) v
def envX:(X:List (LEx×Frame))->XTy X->Env
 | [x],v=>x.2.env v
 | x::_::_,.inl v=>x.2.env v
 | _::y::r,.inr v=>envX (y::r) v
def stX:(X:List (LEx×Frame))->XTy X->List BX
 | [x],v=>x.2.st v
 | x::_::_,.inl v=>x.2.st v
 | _::y::r,.inr v=>stX (y::r) v
def sumE {m o d:Type} (f:m->d) (g:o->d):m⊕o->d
 | .inl a=>f a
 | .inr b=>g b
def kX {R:Type}:(X:List (LEx×Frame))->XTy X->(LEx->Env->List BX->Option R)->Option R
 | [x],v,K=>K x.1 (x.2.env v) (x.2.st v)
 | x::y::r,v,K=>sumE (λv=>K x.1 (x.2.env v) (x.2.st v)) (λv=>kX (y::r) v K) v
theorem kX_eq {R:Type}:∀ (X:List (LEx×Frame)) (v:XTy X) (K:LEx->Env->List BX->Option R),kX X v K=K (exX X v) (envX X v) (stX X v):=by
 intro X;induction X with
 | nil=>grind
 | cons x r d=>
  intro v K;cases r with
  | nil=>rfl
  | cons y r=>
   cases v with
   | inl v=>rfl
   | inr v=>exact d v K
def npX (np:Nat) (X:List (LEx×Frame)):Bool:=X.all λx=>Nat.ble np x.2.bs.length
theorem a3v:∀ (X:List (LEx×Frame)) (v:XTy X),NoGd (envX X v):=by
 intro X;induction X with
 | nil=>grind
 | cons x r d=>
  intro v;cases r with
  | nil=>exact x.2.noGd v
  | cons y r=>
   cases v with
   | inl v=>exact x.2.noGd v
   | inr v=>exact d v
theorem awe {P:Program}{e:Env}{st:List BX}{l:LEx}:∀ (X:List (LEx×Frame)) (v:XTy X),decX P X l e st=some v->exX X v=l:=by
 intro X;induction X with
 | nil=>grind
 | cons x r o=>
  intro v h;cases r with
  | nil=>
   simp only [decX] at h;cases d:apo x.1 l with
   | false=>grind
   | true=>exact aix d
  | cons y r=>
   simp only [decX] at h;cases d:apo x.1 l with
   | true=>
    rw [d] at h;simp only [Ad] at h;split at h
    ·cases h;exact aix d
    ·cases h
   | false=>
    rw [d] at h;simp only [Ae] at h;split at h
    ·rename_i u m;cases h;exact o u m
    ·cases h
theorem ap7 {Γ:Ctx}{P:Program} (M:Γ.P=P) {w:World}{a:Act}{e:Env}{st:List BX}{l:LEx}:∀ (X:List (LEx×Frame)) (v:XTy X),npX Γ.np X=true->decX P X l e st=some v->exX X v=l/\(Rel Γ e st a w->Rel Γ (envX X v) (stX X v) a w):=by
 intro X;induction X with
 | nil=>grind
 | cons x r U=>
  intro v m h;have O:Γ.np<=x.2.bs.length:=by simp only [npX,Bh,Ai] at m;simp_all
  cases r with
  | nil=>
   simp only [decX] at h;cases d:apo x.1 l with
   | false=>grind
   | true=>rw [d] at h;exact ⟨aix d,λz=>Frame.dec_sound M O h z⟩
  | cons y r=>
   simp only [decX] at h;cases d:apo x.1 l with
   | true=>
    rw [d] at h;simp only [Ad] at h;split at h
    ·rename_i u H;cases h;exact ⟨aix d,λz=>Frame.dec_sound M O H z⟩
    ·cases h
   | false=>
    rw [d] at h;simp only [Ae] at h;split at h
    ·rename_i u H;cases h;have o:npX Γ.np (y::r)=true:=by
      simp only [npX,Bh,Ai] at m ⊢;exact m.2
     exact U u o H
    ·cases h
theorem a8o {Γ:Ctx}{P:Program} (M:Γ.P=P) {w:World}{a:Act}{v0:Value}{e:Env}{st:List BX}{l:LEx}:∀ (X:List (LEx×Frame)) (v:XTy X),npX Γ.np X=true->decX P X l e st=some v->exX X v=l/\(PRel Γ (e 0) st v0 a w->PRel Γ (envX X v 0) (stX X v) v0 a w):=by
 intro X;induction X with
 | nil=>grind
 | cons x r U=>
  intro v m h;have O:Γ.np<=x.2.bs.length:=by simp only [npX,Bh,Ai] at m;simp_all
  cases r with
  | nil=>
   simp only [decX] at h;cases d:apo x.1 l with
   | false=>grind
   | true=>rw [d] at h;exact ⟨aix d,λz=>Frame.dec_pan M O h z⟩
  | cons y r=>
   simp only [decX] at h;cases d:apo x.1 l with
   | true=>
    rw [d] at h;simp only [Ad] at h;split at h
    ·rename_i u H;cases h;exact ⟨aix d,λz=>Frame.dec_pan M O H z⟩
    ·cases h
   | false=>
    rw [d] at h;simp only [Ae] at h;split at h
    ·rename_i u H;cases h;have o:npX Γ.np (y::r)=true:=by
      simp only [npX,Bh,Ai] at m ⊢;exact m.2
     exact U u o H
    ·cases h
def ad1 {d m:Type} (step:d->Option (d⊕m)):Nat->d->Option m
 | 0,_=>none
 | n+1,x=>
  match step x with
  | none=>none
  | some (.inl x1)=>ad1 step n x1
  | some (.inr y)=>some y
theorem a05 {d o:Type}{step:d->Option (d⊕o)}:∀ (n m:Nat) (x:d) (y:o),ad1 step n x=some y->n<=m->ad1 step m x=some y:=by
 intro n;induction n with
 | zero=>grind [ad1]
 | succ n H=>intro m x y h z;obtain ⟨k,rfl⟩:∃ k,m=k+1:=⟨m-1,by omega⟩;grind [ad1]
open Classical in
noncomputable def aaz {d m:Type} (step:d->Option (d⊕m)) (x:d):Option m:=
 if h:∃ n y,ad1 step n x=some y then ad1 step h.choose x else none
theorem aiy {d m:Type}{step:d->Option (d⊕m)}{x:d}{y:m} (h:aaz step x=some y):∃ n,ad1 step n x=some y:=by unfold aaz at h;split at h;all_goals grind
theorem aa8 {d m:Type}{step:d->Option (d⊕m)}{x:d}{y:m} (n:Nat) (h:ad1 step n x=some y):aaz step x=some y:=by unfold aaz;have o:∃ n y,ad1 step n x=some y:=⟨n,y,h⟩;rw [dif_pos o];grind [a05,max,Nat.le_max_right,Nat.le_max_left]
theorem ay2 {z M:Type} (step:z->Option (z⊕M)) (x:z):aaz step x=(match step x with | none=>none | some (.inl x1)=>aaz step x1 | some (.inr y)=>some y):=by
 cases H:step x with
 | none=>
  cases m:aaz step x with
  | none=>rfl
  | some y=>
   obtain ⟨n,d⟩:=aiy m;cases n with
   | zero=>simp [ad1] at d
   | succ n=>grind [ad1]
 | some s=>
  cases s with
  | inr y=>exact aa8 1 (by simp [ad1,H])
  | inl x1=>
   show _=aaz step x1;cases m:aaz step x1 with
   | some y=>obtain ⟨n,d⟩:=aiy m;exact aa8 (n+1) (by simp [ad1,H,d])
   | none=>
    cases o:aaz step x with
    | none=>rfl
    | some y=>
     obtain ⟨n,d⟩:=aiy o;cases n with
     | zero=>simp [ad1] at d
     | succ n=>grind [ad1,aa8]
theorem aan {d m:Type}{step:d->Option (d⊕m)}{x x1:d} (h:step x=some (.inl x1)):aaz step x=aaz step x1:=by rw [ay2,h]
theorem aac {d m:Type}{step:d->Option (d⊕m)}{x:d}{y:m} (h:step x=some (.inr y)):aaz step x=some y:=by rw [ay2,h]
noncomputable def aa2 {m o:Type} (d:Nat) (step:m->Option (m⊕o)) (x:m):Option o:=
 match d with
 | 0=>aaz step x
 | n+1=>ad1 step (n+1) x
theorem a04 {m o:Type}{d:Nat}{step:m->Option (m⊕o)}{x:m}{y:o} (h:aa2 d step x=some y):∃ n,ad1 step n x=some y:=by unfold aa2 at h;grind [aiy]
theorem aal {d m:Type} (step:d->Option (d⊕m)) (x:d):aa2 0 step x=aaz step x:=rfl
structure LoopE where
 key:Nat
 H:Frame
 X:List (LEx×Frame)
 step:H.ty->Option (H.ty⊕XTy X)
noncomputable def bed (P:Program) (d:Nat):List LoopE->(R:Type)->Nat->Env->List BX->(LEx->Env->List BX->Option R)->Option R
 | [],_,_,_,_,_=>none
 | l::r,R,key,e,st,K=>bif Nat.beq l.key key then (l.H.dec P e st).bind λx=>(aa2 d l.step x).bind λy=>kX l.X y K else bed P d r R key e st K
def a62 {d m:Type} (x:Option d):Option (d⊕m):=match x with | some v=>some (.inl v) | none=>none
def as2 {m d:Type} (x:Option d):Option (m⊕d):=match x with | some v=>some (.inr v) | none=>none
def aq4 (C:Cfg) (d:Code) (l:LoopE):Prop:=
 ∀ (x:l.H.ty),exec C d { norm:=λe st=>a62 (l.H.dec C.P e st),exit:=λi e st=>as2 (decX C.P l.X (.exit i) e st),ret:=λe st=>as2 (decX C.P l.X .ret e st),pan:=λs st=>as2 (decX C.P l.X .pan (λt=>bif Nat.beq t 0 then s else .undef) st) } (l.H.env x) (l.H.st x)=l.step x
theorem aw4 {C:Cfg} (hC:aar C) {m:Code}{l:LoopE} (hL:∀ b,b∈aa6 m->aai C b) (ab:Nat.ble C.np l.H.bs.length=true) (hX:npX C.np l.X=true) (o:aq4 C m l):
 ∀ (n:Nat) (x:l.H.ty) (y:XTy l.X),ad1 l.step n x=some y->atl C m n (l.H.env x) (l.H.st x) (exX l.X y) (envX l.X y) (stX l.X y):=by
 intro n
 induction n with
 | zero=>grind [ad1]
 | succ n ih=>
  intro x y h
  have hs:=o x
  cases W:l.step x with
  | none=>grind [ad1]
  | some s=>
   rw [W] at hs
   refine a06 hC hL hs (λY M d Z=>?_) (λi Y M d Z=>?_) (λY M d Z=>?_) (λs1 M d=>?_)
   ·simp only [a62] at d;split at d
    ·rename_i x1 h1;cases d;simp only [ad1,W] at h;intro Γ V hn U Q a w hr aa hQ;exact ih x1 y h Γ V hn U Q a w (Frame.dec_sound V (by simp_all) h1 hr) (l.H.noGd x1) hQ
    ·cases d
   ·simp only [as2] at d;grind [ad1,Option.some.injEq,awe,ap7]
   ·simp only [as2] at d;grind [ad1,Option.some.injEq,awe,ap7]
   ·simp only [as2] at d;split at d
    ·rename_i z O;cases d;simp only [ad1,W,Ak] at h;subst h;exact ⟨awe l.X z O,λ Γ v a w V hn hp=>(a8o (a:=a) (w:=w) (v0:=v) V l.X z (by grind) O).2 hp⟩
    ·cases d
theorem a5e {C:Cfg} (Z:aar C) {d:Code} (z:Nat) (l:LoopE) (hL:∀ b,b∈aa6 d->aai C b) (m:(Nat.ble C.np l.H.bs.length&&npX C.np l.X)=true) (o:aq4 C d l)
 (M:∀ (R:Type) (e:Env) (st:List BX) (K:LEx->Env->List BX->Option R),C.lam R (amq d) e st K=(l.H.dec C.P e st).bind λx=>(aa2 z l.step x).bind λy=>kX l.X y K):aai C d:=by
 simp only [Ai] at m
 intro R e st K r h
 rw [M] at h
 simp only [Bf] at h
 obtain ⟨x,Y,y,U,V⟩:=h
 rw [kX_eq] at V
 obtain ⟨n,U⟩:=a04 U
 refine ⟨exX l.X y,envX l.X y,stX l.X y,n,V,a3v _ _,?_⟩
 intro Γ W hn O Q a w hr hg hQ
 exact aw4 Z hL m.1 m.2 o n x y U Γ W hn O Q a w (Frame.dec_sound W (by simp_all) Y hr) (l.H.noGd x) hQ
structure AFrame where
 n:Nat
 bs:List BSh
 sh:List Shape
@[reducible] def AFrame.ty (A:AFrame):Type:=TyL A.sh
def AFrame.args (A:AFrame) (x:A.ty):List SV:=(encL A.sh x).take A.n
def AFrame.st (A:AFrame) (x:A.ty):List BX:=toSt A.bs ((encL A.sh x).drop A.n)
def aiz (P:Program) (st:List BX) (bs:List BSh):List SV->List Shape->Option (List SV)
 | [],_=>some []
 | s::ss,sh::shs=>match akn P st bs sh s,aiz P st bs ss shs with | some v,some vs=>some (v::vs) | _,_=>none
 | _::_,[]=>none
def AFrame.get (A:AFrame) (P:Program) (d:List SV) (st:List BX):Option A.ty:=
 bif Nat.beq d.length A.n then
  match aiz P st A.bs d A.sh,age P st A.bs A.bs st (A.sh.drop A.n) with
  | some o,some m=>getL A.sh (o++m)
  | _,_=>none
 else none
theorem asc {P:Program}{st:List BX}{bs:List BSh}:∀ (m:List SV) (d:List Shape) (o:List SV),aiz P st bs m d=some o->o.length=m.length/\∀ (i:Nat) (x:SV),o[i]?=some x->∃ y z,m[i]?=some y/\akn P st bs z y=some x:=by
 intro m;induction m with
 | nil=>intro d o h;simp [aiz] at h;grind
 | cons s ss H=>
  intro d o h;cases d with
  | nil=>simp [aiz] at h
  | cons z d=>simp only [aiz] at h;grind
theorem AFrame.get_spec {P:Program}{A:AFrame}{d:List SV}{st:List BX}{x:A.ty} (h:A.get P d st=some x):d.length=A.n/\StFit P st A.bs A.bs st (A.st x)/\(A.args x).length=d.length/\∀ (i:Nat) (s:SV),(A.args x)[i]?=some s->∃ y o,d[i]?=some y/\akn P st A.bs o y=some s:=by
 unfold AFrame.get at h;cases m:Nat.beq d.length A.n with
 | false=>grind
 | true=>rw [m] at h;have z:=Af m;simp only [Ad] at h;grind [auh,asc,aon,toSt,AFrame.st,List.drop_left,AFrame.args,List.take_left]
theorem Meets.enter {P:Program}{A:AFrame}{f:FuncId}{as:List SV}{st:List BX}{x:A.ty} (h:A.get P as st=some x) (U:st.length<=A.bs.length) {rs:List SV}{st':List BX} (hm:Meets P f (A.args x) (A.st x) rs st'):Meets P f as st rs st':=by
 obtain ⟨h1,X,h3,h4⟩:=AFrame.get_spec h;refine ⟨hm.1,λD ow μ w M H=>?_⟩;have W:Pre P D (owTo ow A.bs.length) μ (A.st x) w (A.args x) M:=by
  refine ⟨by rw [H.size,h3],λi s v hs hv=>?_,H.objs.fit X,λp m g hg=>?_⟩
  ·obtain ⟨y,sh,hy,hl⟩:=h4 i s hs;exact adl X (H.arg i y v hy hv) hl
  ·obtain ⟨Y,q2⟩:=H.tabs p m g hg;grind [owTo]
 refine (hm.2 D _ μ w M W).mono λe w' ⟨v,D',he,m⟩=>⟨v,D',he,m.dom,λb o d=>?_,?_,m.os,m.tape,m.output,m.size,λb Z hn=>m.old b Z (by simp [owTo,hn]),m.keeps⟩
 ·rcases m.new b o d with d | d | d;all_goals grind [owTo]
 ·obtain ⟨ab,ad,V⟩:=m.rest;refine ⟨ab,ad,V.objs,V.res,λb k Z z=>(owTo_some.1 (V.own b k Z z)).1,λk b O=>?_,λk E g xs ys O aa=>?_⟩
  ·obtain ⟨b1,Y,q2⟩:=X.kept O (Aw (A4.1 O).1 U);obtain ⟨b2,r1,r2,r3⟩:=V.keep k b1 Y;grind [aga,auk]
  ·have z:=Aw (A4.1 O).1 U;obtain ⟨fl,Y,q2⟩:=X.arrOn O z;obtain ⟨r1,r2⟩:=V.same k E fl xs ys Y aa;exact ⟨r1,r2.from z⟩
theorem Post.leave {P:Program}{A:AFrame}{D:Dom}{w:World}{ow:Own}{μ:Nat->Nat}{st:List BX}{rs:List SV}{s:List BX}{v:Value}{D':Dom}{w':World}{y:A.ty} (h:A.get P rs s=some y) (aa:st.length<=A.bs.length) (m:Post P D w ow μ st rs s v D' w'):Post P D w ow μ st (A.args y) (A.st y) v D' w'/\ahw (A.args y) v=ahw rs v:=by
 obtain ⟨h1,h2,h3,h4⟩:=AFrame.get_spec h;obtain ⟨ad,ae,X⟩:=m.rest;have ah:∀ s0,rs≠[.pan s0]:=by rintro s0 rfl;obtain ⟨s1,V⟩:=List.length_eq_one_iff.1 (show (A.args y).length=1 by rw [h3];rfl);obtain ⟨z,sh,hz,ab⟩:=h4 0 s1 (by rw [V];rfl);grind [a5g]
 rcases acx X.res with ⟨s0,e,_⟩ | ⟨_,O,Y⟩
 ·grind
 have M:SRep P D' w' (owTo ad A.bs.length) ae (A.st y) (ad2 (A.args y)) v:=by
  have d:=O;by_cases Z:rs.length=1
  ·obtain ⟨s0,rfl⟩:=List.length_eq_one_iff.1 Z;obtain ⟨s1,V⟩:=List.length_eq_one_iff.1 (show (A.args y).length=1 by omega);rw [V] at h4 ⊢;obtain ⟨z,sh,hz,ab⟩:=h4 0 s1 rfl;simp at hz;subst hz;exact adl h2 d ab
  ·have e1:∀ l:List SV,l.length≠1->ad2 l=.tup l:=by
    intro l Z;match l,Z with
    | [],_=>rfl
    | [x],Z=>grind
    | x::y::r,_=>rfl
   rw [e1 rs Z] at d;rw [e1 _ (by omega)];cases d with
   | tup hs ag=>refine .tup (by omega) (λi x u hx hu=>?_);grind [adl]
 obtain ⟨U,o⟩:=aic M;refine ⟨⟨m.dom,m.new,?_,m.os,m.tape,m.output,m.size,m.old,m.keeps⟩,o.trans Y.symm⟩;refine ⟨owTo ad A.bs.length,ae,X.objs.fit h2,U,λb k hb H=>X.own b k (owTo_some.1 hb).1 H,λk b W=>?_,λk E g xs ys W af=>?_⟩
 ·obtain ⟨b1,q1,q2,q3⟩:=X.keep k b W;obtain ⟨b2,r1,r2⟩:=h2.kept q1 (Aw (A4.1 W).1 aa);grind
 ·have H:=Aw (A4.1 W).1 aa;obtain ⟨b1,p1,p2,_⟩:=X.keep k _ W;obtain ⟨g1,q1,q2⟩:=h2.arrBack af (A4.1 p1).1;have:=q2 rfl;subst this;obtain ⟨r1,r2⟩:=X.same k E g xs ys W q1;exact ⟨r1,r2.to H⟩
theorem Post.leaveP {P:Program}{A:AFrame}{D:Dom}{w:World}{ow:Own}{μ:Nat->Nat}{st:List BX}{s0:SV}{s:List BX}{v:Value}{D':Dom}{w':World}{y:A.ty} (h:A.get P [s0] s=some y) (M:st.length<=A.bs.length) (d:Post P D w ow μ st [.pan s0] s v D' w'):Post P D w ow μ st [.pan ((A.args y).headD .undef)] (A.st y) v D' w':=by
 obtain ⟨h1,U,h3,h4⟩:=AFrame.get_spec h;obtain ⟨X,Z,H⟩:=d.rest;refine ⟨d.dom,d.new,?_,d.os,d.tape,d.output,d.size,d.old,d.keeps⟩;obtain ⟨s1,O⟩:=List.length_eq_one_iff.1 (show (A.args y).length=1 by rw [h3];rfl);obtain ⟨z,sh,hz,W⟩:=h4 0 s1 (by rw [O];rfl);simp at hz;subst hz;rw [O];refine ⟨owTo X A.bs.length,Z,H.objs.fit U,adl U H.res W,λb k hb m=>H.own b k (owTo_some.1 hb).1 m,λk b o=>?_,λk E g xs ys o V=>?_⟩
 ·obtain ⟨b1,Y,q2,q3⟩:=H.keep k b o;obtain ⟨b2,r1,r2⟩:=U.kept Y (Aw (A4.1 o).1 M);grind
 ·have m:=Aw (A4.1 o).1 M;obtain ⟨b1,p1,p2,_⟩:=H.keep k _ o;obtain ⟨g1,Y,q2⟩:=U.arrBack V (A4.1 p1).1;have:=q2 rfl;subst this;obtain ⟨r1,r2⟩:=H.same k E g xs ys o Y;exact ⟨r1,r2.to m⟩
structure CallE where
 f:FuncId
 A:AFrame
 R:AFrame
 F:A.ty->Option R.ty
 dflt:R.ty
def CallE.Ok (P:Program) (c:CallE):Prop:=∀ (x:c.A.ty) (y:c.R.ty),c.F x=some y->Meets P c.f (c.A.args x) (c.A.st x) (c.R.args y) (c.R.st y)
structure CallP where
 f:FuncId
 A:AFrame
 R:AFrame
 X:AFrame
 F:A.ty->Option (R.ty⊕X.ty)
 dflt:R.ty
def CallP.Ok (P:Program) (c:CallP):Prop:=∀ (x:c.A.ty),(∀ (y:c.R.ty),c.F x=some (.inl y)->Meets P c.f (c.A.args x) (c.A.st x) (c.R.args y) (c.R.st y))/\∀ (y:c.X.ty),c.F x=some (.inr y)->Meets P c.f (c.A.args x) (c.A.st x) [.pan ((c.X.args y).headD .undef)] (c.X.st y)
def a0e (P:Program):List CallP->(R:Type)->Bool->FuncId->List SV->List BX->(List SV->List BX->Option R)->Option R
 | [],_,_,_,_,_,_=>none
 | c::r,R,b,f,as,st,K=>
  bif Nat.beq c.f f&&Nat.ble st.length c.A.bs.length then
   match c.A.get P as st with
   | some x=>(bif b then c.F x else some (.inl c.dflt)).bind λy=>sumE (λy=>K (c.R.args y) (c.R.st y)) (λy=>K [.pan ((c.X.args y).headD .undef)] (c.X.st y)) y
   | none=>a0e P r R b f as st K
  else a0e P r R b f as st K
def atz (P:Program) (d:List CallP):List CallE->(R:Type)->Bool->FuncId->List SV->List BX->(List SV->List BX->Option R)->Option R
 | [],R,b,f,as,st,K=>a0e P d R b f as st K
 | c::r,R,b,f,as,st,K=>
  bif Nat.beq c.f f&&Nat.ble st.length c.A.bs.length then
   match c.A.get P as st with
   | some x=>(bif b then c.F x else some c.dflt).bind λy=>K (c.R.args y) (c.R.st y)
   | none=>atz P d r R b f as st K
  else atz P d r R b f as st K
theorem a8d {P:Program}:∀ (cs:List CallP),(∀ c,c∈cs->c.Ok P)->∀ (R:Type) (b:Bool) (f:FuncId) (o:List SV) (st:List BX) (K:List SV->List BX->Option R) (r:R),a0e P cs R b f o st K=some r->
 (b=true->∃ rs st',K rs st'=some r/\Meets P f o st rs st')/\∃ rs st',K rs st'=some r:=by
 intro cs
 induction cs with
 | nil=>grind [a0e]
 | cons c cs W=>
  intro m R b f o st K r h
  have H:=W (λc V=>m c (List.mem_cons_of_mem _ V)) R b f o st K r
  simp only [a0e] at h
  cases d:(Nat.beq c.f f&&Nat.ble st.length c.A.bs.length) with
  | false=>grind
  | true=>
   rw [d] at h
   simp only [Ai] at d
   have:=Af d.1;subst this
   simp only [Ad] at h
   split at h
   ·rename_i x U;cases b with
    | true=>
     simp only [Ad,Bf] at h;obtain ⟨y,M,z⟩:=h;have O:=m c (by simp) x;cases y with
     | inl y=>exact ⟨λ_=>⟨_,_,z,Meets.enter U (As d.2) (O.1 y M)⟩,_,_,z⟩
     | inr y=>exact ⟨λ_=>⟨_,_,z,Meets.enter U (As d.2) (O.2 y M)⟩,_,_,z⟩
    | false=>simp only [Ae,Aa] at h;exact ⟨λh=>absurd h (by decide),_,_,h⟩
   ·exact H h
theorem a3i {C:Cfg}{M:List CallP} (z:∀ c,c∈M->c.Ok C.P):∀ (cs:List CallE),(∀ c,c∈cs->c.Ok C.P)->∀ (R:Type) (b:Bool) (f:FuncId) (d:List SV) (st:List BX) (K:List SV->List BX->Option R) (r:R),atz C.P M cs R b f d st K=some r->
 (b=true->∃ rs st',K rs st'=some r/\Meets C.P f d st rs st')/\∃ rs st',K rs st'=some r:=by
 intro cs
 induction cs with
 | nil=>intro _ R b f d st K r h;exact a8d M z R b f d st K r h
 | cons c cs X=>
  intro m R b f d st K r h
  have H:=X (λc V=>m c (List.mem_cons_of_mem _ V)) R b f d st K r
  simp only [atz] at h
  cases o:(Nat.beq c.f f&&Nat.ble st.length c.A.bs.length) with
  | false=>grind
  | true=>
   rw [o] at h
   simp only [Ai] at o
   have:=Af o.1;subst this
   simp only [Ad] at h
   split at h
   ·rename_i x W;cases b with
    | true=>simp only [Ad,Bf] at h;obtain ⟨y,U,O⟩:=h;refine ⟨λ_=>⟨_,_,O,?_⟩,_,_,O⟩;exact Meets.enter W (As o.2) (m c (by simp) x y U)
    | false=>grind
   ·exact H h
@[reducible] noncomputable def cfg (P:Program) (n np:Nat) (d:List CallE) (m:List LoopE) (o:Nat) (z:List CallP:=[]) (own:Bool:=false):Cfg:=
 { P:=P,own:=own,n:=n,np:=np,call:=atz P z d,lam:=bed P o m }
theorem aad {P:Program}{n np:Nat}{d:List CallE}{m:List LoopE}{o:Nat}{z:List CallP}{own:Bool} (h:∀ c,c∈d->c.Ok P) (M:∀ c,c∈z->c.Ok P):aar (cfg P n np d m o z own):=
 λR b f H st K r O=>a3i (C:=cfg P n np d m o z own) M d h R b f H st K r O
theorem bbd {P:Program}:∀ c,c∈([]:List CallP)->c.Ok P:=λc h=>by cases h
theorem bdw {P:Program}{c:CallP}{cs:List CallP} (h:c.Ok P) (m:∀ c,c∈cs->c.Ok P):∀ d,d∈c::cs->d.Ok P:=by grind
theorem bdl {P:Program}{n np:Nat}{d:List CallE}{m:List LoopE}{o:Nat} (h:∀ c,c∈d->c.Ok P):aar (cfg P n np d m o):=aad h bbd
def lp (c:Code) (i:Nat):Code:=(aa6 c).getD i .skip
def aas (fn:Func):Code:=match fn.body with | some c=>c | none=>.skip
theorem bef {C:Cfg}{c:Code} (h:(aa6 c).length=0):∀ b,b∈aa6 c->aai C b:=by grind
theorem ay3 {C:Cfg}{c:Code} (n:Nat) (h:(aa6 c).length=n) (o:∀ i,i<n->aai C (lp c i)):∀ b,b∈aa6 c->aai C b:=by intro b d;obtain ⟨i,m,rfl⟩:=List.mem_iff_getElem.1 d;grind [lp,List.getElem?_eq_getElem]
theorem loopCut {C:Cfg}{d:Code} (h:∀ (R:Type) (e:Env) (st:List BX) (K:LEx->Env->List BX->Option R),C.lam R (amq d) e st K=none):aai C d:=λR e st K r m=>by grind
theorem bdy {P:Program}:∀ c,c∈([]:List CallE)->c.Ok P:=λc h=>by cases h
theorem bdx {P:Program}{c:CallE}{cs:List CallE} (h:c.Ok P) (m:∀ c,c∈cs->c.Ok P):∀ d,d∈c::cs->d.Ok P:=by grind
theorem ay6 {C:Cfg} (H:aar C) {f:FuncId}{fn:Func}{c:Code} (V:C.P.funcs[f]?=some fn) (U:fn.body=some c) (X:fn.ntmps=C.n) (m:(fn.name== "runtime.NumGoroutine")=false) (O:∀ d,d∈aa6 c->aai C d)
 {A R:AFrame}{F:A.ty->Option R.ty} (M:∀ x,aua C fn (A.args x) (A.st x) (R.get C.P)=F x) (o:∀ x,(Nat.ble (A.args x).length C.n&&Nat.beq (A.st x).length C.np&&Nat.ble (A.st x).length R.bs.length)=true) (x:A.ty) (y:R.ty) (h:F x=some y):
 Meets C.P f (A.args x) (A.st x) (R.args y) (R.st y):=by
 have z:=o x
 simp only [Ai] at z
 exact ajn H V U X m O (r:=y) ((M x).trans h) (As z.1.1) (Af z.1.2) (λrs s W D w ow μ v D' w' Y=>Y.leave W (As z.2))
def getP (P:Program) (R X:AFrame) (rs:List SV) (st:List BX):Option (R.ty⊕X.ty):=fork rs (a62 (R.get P rs st)) (λs=>as2 (X.get P [s] st))
theorem aup {C:Cfg} (W:aar C) {f:FuncId}{fn:Func}{c:Code} (hf:C.P.funcs[f]?=some fn) (hb:fn.body=some c) (hn:fn.ntmps=C.n) (m:(fn.name== "runtime.NumGoroutine")=false) (Z:∀ o,o∈aa6 c->aai C o)
 {A R X:AFrame}{F:A.ty->Option (R.ty⊕X.ty)} (Y:∀ x,aua C fn (A.args x) (A.st x) (getP C.P R X)=F x) (O:∀ x,(Nat.ble (A.args x).length C.n&&Nat.beq (A.st x).length C.np&&Nat.ble (A.st x).length R.bs.length&&Nat.ble (A.st x).length X.bs.length)=true) (x:A.ty):
 (∀ (y:R.ty),F x=some (.inl y)->Meets C.P f (A.args x) (A.st x) (R.args y) (R.st y))/\∀ (y:X.ty),F x=some (.inr y)->Meets C.P f (A.args x) (A.st x) [.pan ((X.args y).headD .undef)] (X.st y):=by
 have M:=O x
 simp only [Ai] at M
 refine ⟨λy h=>ajn W hf hb hn m Z (r:=.inl y) ((Y x).trans h) (As M.1.1.1) (Af M.1.1.2) (λrs s d D w ow μ v D' w' U=>?_),λy h=>ajn W hf hb hn m Z (r:=.inr y) ((Y x).trans h) (As M.1.1.1) (Af M.1.1.2) (λrs s d D w ow μ v D' w' U=>?_)⟩
 ·unfold getP at d;have H:=aev d;clear d;rcases H with ⟨s0,rfl,d⟩ | ⟨_,d⟩
  ·simp only [as2] at d;grind
  ·simp only [a62] at d;split at d
   ·rename_i z V;cases d;exact U.leave V (As M.1.2)
   ·cases d
 ·unfold getP at d;have H:=aev d;clear d;rcases H with ⟨s0,rfl,d⟩ | ⟨_,d⟩
  ·simp only [as2] at d;split at d
   ·rename_i z V;cases d;exact ⟨U.leaveP V (As M.2),rfl⟩
   ·cases d
  ·simp only [a62] at d;grind
end Go.Ab
namespace Go.Ab
open Go
set_option maxRecDepth 100000
def isT (o:Option Bool):Bool:=match o with | some true=>true | _=>false
theorem a9h {o:Option Bool} (h:isT o=true):o=some true:=by grind [isT]
noncomputable def limQ {m o:Type} (d:Nat) (G:Nat->m->Option o) (x:m):Option o:=
 match d with
 | 0=>open Classical in if h:∃ y,∃ N,∀ n,N<=n->G n x=some y then some (Classical.choose h) else none
 | n+1=>G (n+1) x
theorem aoa {m o:Type}{d:Nat}{G:Nat->m->Option o}{x:m}{y:o} (h:limQ d G x=some y):∃ n,G n x=some y:=by
 unfold limQ at h;split at h
 ·split at h
  ·rename_i H;cases h;obtain ⟨N,z⟩:=Classical.choose_spec H;exact ⟨N,z N (Nat.le_refl _)⟩
  ·cases h
 grind
theorem ali {m o:Type}{G:Nat->m->Option o}{x:m}{y:o} (N:Nat) (h:∀ n,N<=n->G n x=some y):limQ 0 G x=some y:=by have d:∃ y,∃ N,∀ n,N<=n->G n x=some y:=⟨y,N,h⟩;unfold limQ;simp only [d,dif_pos];obtain ⟨M,z⟩:=Classical.choose_spec d;rw [<-z (max N M) (Nat.le_max_right _ _),h (max N M) (Nat.le_max_left _ _)]
theorem ben {P:Program} (E:CallE) {d:Nat}{G:Nat->E.A.ty->Option E.R.ty} (o:∀ x,E.F x=limQ d G x) (h:∀ n,CallE.Ok P ⟨E.f,E.A,E.R,G n,E.dflt⟩):E.Ok P:=by intro x y m;rw [o] at m;obtain ⟨n,z⟩:=aoa m;exact h n x y z
theorem beo {P:Program} (E:CallP) {d:Nat}{G:Nat->E.A.ty->Option (E.R.ty⊕E.X.ty)} (z:∀ x,E.F x=limQ d G x) (h:∀ n,CallP.Ok P ⟨E.f,E.A,E.R,E.X,G n,E.dflt⟩):E.Ok P:=by
 intro x;refine ⟨λy m=>?_,λy m=>?_⟩
 ·rw [z] at m;obtain ⟨n,o⟩:=aoa m;exact (h n x).1 y o
 ·rw [z] at m;obtain ⟨n,o⟩:=aoa m;exact (h n x).2 y o
theorem bbn {P:Program}{f:FuncId}{A R:AFrame}{d:R.ty}:CallE.Ok P ⟨f,A,R,λ_=>none,d⟩:=λx y h=>by cases h
theorem bcx {P:Program}{f:FuncId}{A R X:AFrame}{d:R.ty}:CallP.Ok P ⟨f,A,R,X,λ_=>none,d⟩:=by intro x;grind
theorem okE {P:Program}{E:CallE}{C:Cfg} (fn:Func) (o:aar C) (H:∀ b,b∈aa6 (aas fn)->aai C b) (M:C.P=P:=by kernel_rfl) (U:C.P.funcs[E.f]?=some fn:=by kernel_rfl) (O:fn.body=some (aas fn):=by kernel_rfl)
 (V:fn.ntmps=C.n:=by kernel_rfl) (d:(fn.name== "runtime.NumGoroutine")=false:=by kernel_rfl) (z:∀ x,aua C fn (E.A.args x) (E.A.st x) (E.R.get C.P)=E.F x:=by intro x;kernel_rfl)
 (m:∀ x,(Nat.ble (E.A.args x).length C.n&&Nat.beq (E.A.st x).length C.np&&Nat.ble (E.A.st x).length E.R.bs.length)=true:=by intro x;kernel_rfl):E.Ok P:=by
 subst M
 exact λx y h=>ay6 o U O V d H z m x y h
theorem okL {C:Cfg} (O:aar C) {d:Code} (m:Nat) (l:LoopE) (U:∀ b,b∈aa6 d->aai C b) (M:(Nat.ble C.np l.H.bs.length&&npX C.np l.X)=true:=by kernel_rfl) (o:aq4 C d l:=by intro x;kernel_rfl)
 (z:∀ (R:Type) (e:Env) (st:List BX) (K:LEx->Env->List BX->Option R),C.lam R (amq d) e st K=(l.H.dec C.P e st).bind λx=>(aa2 m l.step x).bind λy=>kX l.X y K:=by intro R e st K;kernel_rfl):aai C d:=a5e O m l U M o z
theorem q0 {P:Program}:∀ c,c∈([]:List CallE)->c.Ok P:=bdy
theorem qc {P:Program}{c:CallE}{cs:List CallE} (h:c.Ok P) (m:∀ c,c∈cs->c.Ok P):∀ d,d∈c::cs->d.Ok P:=bdx h m
theorem L0 {C:Cfg}{c:Code} (h:(aa6 c).length=0:=by kernel_rfl):∀ b,b∈aa6 c->aai C b:=bef h
theorem L1 {C:Cfg}{c:Code} (a:aai C (lp c 0)) (h:(aa6 c).length=1:=by kernel_rfl):∀ b,b∈aa6 c->aai C b:=ay3 1 h λi d=>by grind
theorem L2 {C:Cfg}{c:Code} (a:aai C (lp c 0)) (b:aai C (lp c 1)) (h:(aa6 c).length=2:=by kernel_rfl):∀ b,b∈aa6 c->aai C b:=ay3 2 h λi d=>by grind
theorem L3 {C:Cfg}{c:Code} (a:aai C (lp c 0)) (b:aai C (lp c 1)) (d:aai C (lp c 2)) (h:(aa6 c).length=3:=by kernel_rfl):∀ b,b∈aa6 c->aai C b:=ay3 3 h λi m=>by grind
theorem L4 {C:Cfg}{c:Code} (a:aai C (lp c 0)) (b:aai C (lp c 1)) (d:aai C (lp c 2)) (e:aai C (lp c 3)) (h:(aa6 c).length=4:=by kernel_rfl):∀ b,b∈aa6 c->aai C b:=ay3 4 h λi m=>by
 match i,m with
 | 0,_=>exact a
 | 1,_=>exact b
 | 2,_=>exact d
 | 3,_=>exact e
theorem p0 {P:Program}:∀ c,c∈([]:List CallP)->c.Ok P:=bbd
theorem pc {P:Program}{c:CallP}{cs:List CallP} (h:c.Ok P) (m:∀ c,c∈cs->c.Ok P):∀ d,d∈c::cs->d.Ok P:=bdw h m
theorem okJ {P:Program}{E:CallE} (fn:Func) (n np m:Nat) (d:List CallE) (H:List CallP) (own:Bool) (h:∀ c,c∈d->c.Ok P) (Y:∀ c,c∈H->c.Ok P) (U:∀ b,b∈aa6 (aas fn)->aai (cfg P n np d [] m H own) b) (W:P.funcs[E.f]?=some fn:=by kernel_rfl) (V:fn.body=some (aas fn):=by kernel_rfl)
 (X:fn.ntmps=n:=by kernel_rfl) (o:(fn.name== "runtime.NumGoroutine")=false:=by kernel_rfl) (O:∀ x,aua (cfg P n np d [] m H own) fn (E.A.args x) (E.A.st x) (E.R.get P)=E.F x:=by intro x;kernel_rfl)
 (z:∀ x,(Nat.ble (E.A.args x).length n&&Nat.beq (E.A.st x).length np&&Nat.ble (E.A.st x).length E.R.bs.length)=true:=by intro x;kernel_rfl):E.Ok P:=λx y M=>ay6 (aad h Y) W V X o U O z x y M
theorem okPE {P:Program}{E:CallP}{C:Cfg} (fn:Func) (o:aar C) (H:∀ b,b∈aa6 (aas fn)->aai C b) (M:C.P=P:=by kernel_rfl) (U:C.P.funcs[E.f]?=some fn:=by kernel_rfl) (O:fn.body=some (aas fn):=by kernel_rfl)
 (V:fn.ntmps=C.n:=by kernel_rfl) (d:(fn.name== "runtime.NumGoroutine")=false:=by kernel_rfl) (z:∀ x,aua C fn (E.A.args x) (E.A.st x) (getP C.P E.R E.X)=E.F x:=by intro x;kernel_rfl)
 (m:∀ x,(Nat.ble (E.A.args x).length C.n&&Nat.beq (E.A.st x).length C.np&&Nat.ble (E.A.st x).length E.R.bs.length&&Nat.ble (E.A.st x).length E.X.bs.length)=true:=by intro x;kernel_rfl):E.Ok P:=by
 subst M
 exact λx=>aup o U O V d H z m x
theorem okPJ {P:Program}{E:CallP} (fn:Func) (n np m:Nat) (d:List CallE) (H:List CallP) (own:Bool) (h:∀ c,c∈d->c.Ok P) (Y:∀ c,c∈H->c.Ok P) (O:∀ b,b∈aa6 (aas fn)->aai (cfg P n np d [] m H own) b) (V:P.funcs[E.f]?=some fn:=by kernel_rfl) (U:fn.body=some (aas fn):=by kernel_rfl)
 (W:fn.ntmps=n:=by kernel_rfl) (o:(fn.name== "runtime.NumGoroutine")=false:=by kernel_rfl) (M:∀ x,aua (cfg P n np d [] m H own) fn (E.A.args x) (E.A.st x) (getP P E.R E.X)=E.F x:=by intro x;kernel_rfl)
 (z:∀ x,(Nat.ble (E.A.args x).length n&&Nat.beq (E.A.st x).length np&&Nat.ble (E.A.st x).length E.R.bs.length&&Nat.ble (E.A.st x).length E.X.bs.length)=true:=by intro x;kernel_rfl):E.Ok P:=λx=>aup (aad h Y) V U W o O M z x
end Go.Ab
