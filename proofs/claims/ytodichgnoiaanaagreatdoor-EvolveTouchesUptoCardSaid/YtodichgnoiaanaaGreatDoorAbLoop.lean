/- Loops by steps, calls by entries. -/
import Derived.Test.YtodichgnoiaanaaGreatDoorAbFrame
import Derived.KernelRfl
set_option linter.unusedVariables false
set_option linter.unusedSimpArgs false
set_option linter.unnecessarySimpa false
namespace Go.Ab
open Go
section
variable {Γ:Ctx}{D:Dom}{ow:Own}{μ:Nat->Nat}{st st':List BX}{bs:List BSh}{w:World}{P:Program}
theorem ake {s:SV}{v:Value} (f:StFit P st bs bs st st') (h:SRep P D w ow μ st s v) (o:alg bs s=true):SRep P D w (owTo ow bs.length) μ st' s v:=by
 unfold alg at o;split at o
 ·rename_i k p T;unfold bdg at o;split at o
  ·rename_i Z p' z;obtain ⟨s,vs,M,aa,O,I,J,h3⟩:=f.box _ _ _ z;cases h with
   | ref H h5=>rw [I] at H;cases H;exact .ref h3 h5
  ·cases o
 ·rename_i k;unfold bd7 at o;split at o
  ·rename_i K E z;obtain ⟨es,I,J⟩:=f.map _ _ _ z;cases h with
   | mref H=>rw [I] at H;cases H;exact .mref J
  ·cases o
 ·rename_i k;unfold bea at o;split at o
  ·rename_i K E z;obtain ⟨es,I,J⟩:=f.mit _ _ _ z;cases h with
   | mitr H=>exact .mitr I
  ·cases o
 ·rename_i k;unfold bbc at o;split at o
  ·rename_i z;obtain ⟨s0,p0,I,J⟩:=f.iter _ z;cases h with
   | iref H=>exact .iref J
  ·cases o
 ·rename_i k T;unfold bdf at o;split at o
  ·rename_i Z z;obtain ⟨s0,I,J⟩:=f.bld _ _ z;cases h with
   | bref H=>exact .bref J
  ·cases o
 ·cases h;exact .nils
 ·cases o
theorem ap6 {k o:Nat}{E:TypeId} (h:ap5 bs k o E=true):bs[k]?=some (.arr E o)/\k<bs.length:=by
 unfold ap5 at h;split at h
 ·rename_i H z I;simp only [Aj] at h;grind [Nat.eq_of_beq_eq_true,List.getElem?_eq_some_iff]
 ·cases h
theorem auf {k k' g I:Nat}{E o:TypeId}{v:Value} (f:StFit P st bs bs st st') (h:SRep P D w ow μ st (.arr k' g o) v) (hb:(Nat.beq k k'&&Nat.beq E o&&afn st k g&&ap5 bs k I E)=true):SRep P D w (owTo ow bs.length) μ st' (.arr k I E) v:=by
 simp only [Aj] at hb;obtain ⟨⟨⟨h1,h2⟩,h3⟩,h4⟩:=hb;have:=Ae h1;subst this;have:=Ae h2;subst this;obtain ⟨J,M⟩:=ap6 h4;obtain ⟨xs,q1,q2⟩:=f.arr k E I J;have aa:∀ {o:TypeId}{z:Nat}{ys:List PV},st[k]?=some (.arr o z ys)->g=z:=by grind [afn,Nat.eq_of_beq_eq_true]
 have hx:∀ {o:TypeId}{z:Nat}{ys:List PV},st[k]?=some (.arr o z ys)->ys=xs:=by grind
 cases h with
 | arrOld H ab=>grind
 | arrNil H=>have:=hx H;subst this;exact .arrNil q1
 | arr H O Z hc ho hs=>have:=hx H;subst this;exact .arr q1 O Z hc (owTo_some.2 ⟨ho,M⟩) hs
theorem ade {sh:Shape}{s s':SV}{v:Value} (f:StFit P st bs bs st st') (h:SRep P D w ow μ st s v) (o:akh P st bs sh s=some s'):SRep P D w (owTo ow bs.length) μ st' s' v:=by
 have I:∀ k,a7e bs k=true->bs[k]?=some .acc/\k<bs.length:=by grind [a7e,List.getElem?_eq_some_iff]
 unfold akh at o;split at o
 ·rename_i k E;split at o
  ·rename_i k' g E' xs;obtain ⟨z,rfl⟩:=aaz o;simp only [Aj] at z;obtain ⟨⟨⟨O,h2⟩,h3⟩,h4⟩:=z;have:=Ae O;subst this;have:=Ae h2;subst this;obtain ⟨H,J⟩:=I _ h4;cases h with
   | @acc _ _ g0 _ _ _ hr hk hg ho=>
    refine .acc hr (f.acc _ H).1 (Nat.le_refl _) (λ_=>?_);have Z:g=g0:=by grind [anh,Nat.eq_of_beq_eq_true]
    rcases ho Z with ho | ⟨b,off,cap,cur,q1,M,q3,q4,q5,q6,q7⟩
    ·exact Or.inl ho
    ·exact Or.inr ⟨b,off,cap,cur,q1,M,q3,q4,q5,owTo_some.2 ⟨q6,J⟩,q7⟩
  ·obtain ⟨z,rfl⟩:=aaz o;obtain ⟨H,J⟩:=I _ z;cases h;exact .acc (.nil λ_=>rfl) (f.acc _ H).1 (Nat.le_refl _) (λ_=>Or.inl ⟨_,rfl⟩)
  ·cases o
 ·split at o
  ·cases o;cases h;exact .slice (.nil λ_=>rfl)
  ·exact ab1 h o _ _ _
 ·split at o
  ·rename_i k fl E;split at o
   ·rename_i k' g E';obtain ⟨z,rfl⟩:=aaz o;grind [auf]
   ·obtain ⟨z,rfl⟩:=aaz o;simp only [Aj] at z;obtain ⟨H,J⟩:=ap6 z.1;obtain ⟨xs,q1,M⟩:=f.arr k E fl H;have aa:=Aq z.2;rcases M with ⟨g1,M,_⟩ | ⟨_,q3⟩
    ·grind
    ·subst q3;cases h;exact .arrNil q1
   ·cases o
  ·split at o
   ·obtain ⟨z,rfl⟩:=aaz o;rw [Aj] at z;have:=Ae z.1;subst this;cases h with
    | ifc h=>exact .ifc (auf f h z.2)
   ·cases o
  ·obtain ⟨z,rfl⟩:=aaz o;unfold ary at z;split at z
   ·rename_i fn n cs;cases h with
    | fn h0 O h2=>refine .fn h0 O (λi s v hi hv=>?_);grind [ake,List.all_eq_true,List.mem_of_getElem?]
   grind [ake]
 ·split at o
  ·rename_i T x;split at o
   ·rename_i y hy;cases o;cases h with
    | ifc h=>exact .ifc (ab1 h hy _ _ _)
   ·cases o
  ·cases o
 ·split at o
  ·cases o;cases h with
   | ifc h=>cases h;exact .ifc (.slice (.nil λ_=>rfl))
  ·split at o
   ·rename_i y hy;cases o;cases h with
    | ifc h=>exact .ifc (ab1 h hy _ _ _)
   ·cases o
  ·cases o
 ·exact ab1 h o _ _ _
theorem a4t {h:Shape}{s:SV}:akh P st bs h (.pan s)=none:=by
 cases h with
 | con c=>cases c<;>simp [akh,ary,alg];split<;>rfl
 | _=>simp [akh,aj2]
mutual
theorem amf (f:StFit P st bs bs st st'):∀ (p:Pat) (s:SV) (H:List Shape) (I:List SV) (z:List Shape) (o:List SV) (v:Value),ahc P st bs p s H=some (I,z)->SRep P D w ow μ st s v->SRep P D w (owTo ow bs.length) μ st' (p.build (I++o)).1 v
 | .leaf,s,sh::H,I,z,o,v,h,J=>by
  simp only [ahc] at h;split at h
  ·rename_i x O;simp only [Ak,Prod.mk.injEq] at h;obtain ⟨rfl,rfl⟩:=h;exact ade f J O
  ·cases h
 | .leaf,s,[],I,z,o,v,h,J=>by simp [ahc] at h
 | .agg T ps,s,H,I,z,o,v,h,J=>by
  simp only [ahc] at h;split at h
  ·rename_i Z hf;have M:=alb J hf;obtain ⟨h1,h2⟩:=akj f ps Z H I z o h;cases M with
   | agg hT hl ho hv hp=>refine .agg hT hl ho (by grind) (λi x fd O aa=>?_);grind
  ·cases h
theorem akj (f:StFit P st bs bs st st'):∀ (O:List Pat) (ss:List SV) (H:List Shape) (J:List SV) (z:List Shape) (o:List SV),ae6 P st bs O ss H=some (J,z)->
 (ai3 O (J++o)).1.length=ss.length/\∀ (i:Nat) (x:SV) (u:Value),(ai3 O (J++o)).1[i]?=some x->(∀ y,ss[i]?=some y->SRep P D w ow μ st y u)->SRep P D w (owTo ow bs.length) μ st' x u
 | [],[],H,J,z,o,h=>by refine ⟨rfl,λi x u M=>?_⟩;simp [ai3] at M
 | [],_::_,H,J,z,o,h=>by simp [ae6] at h
 | _::_,[],H,J,z,o,h=>by simp [ae6] at h
 | p::O,s::ss,H,J,z,o,h=>by
  simp only [ae6] at h;split at h
  ·rename_i Z I h1;split at h
   ·rename_i ws aa h2;simp only [Ak,Prod.mk.injEq] at h;obtain ⟨rfl,rfl⟩:=h;have hb:=ahx p s H Z I (ws++o) h1;obtain ⟨l1,l2⟩:=akj f O ss I ws _ o h2;simp only [ai3,As];rw [hb];refine ⟨by simp [l1],λi x u M hy=>?_⟩;cases i with
    | zero=>simp at M;subst M;exact amf f p s H Z I (ws++o) u h1 (hy s (by simp))
    | succ i=>exact l2 i x u (by simpa using M) (λy h=>hy y (by simpa using h))
   ·cases h
  ·cases h
end
theorem StFit.kind (f:StFit P st bs bs st st') {k:Nat}{b:BX} (H:st'[k]?=some b):(∃ J,st[k]?=some J/\b.kind=J.kind)\/(st.length<=k):=by
 have I:k<bs.length:=by rw [<-f.len];grind
 have z:bs[k]?=some bs[k]:=Am I;generalize bs[k]=c at z;cases c with
 | acc=>
  obtain ⟨o,h⟩:=f.acc k z;rw [H] at o;cases o;rcases h with ⟨g,h⟩ | h
  ·exact Or.inl ⟨_,h,rfl⟩
  grind
 | box T p=>obtain ⟨s,vs,O,aa,Z,o,h,M⟩:=f.box k T p z;rw [H] at M;cases M;exact Or.inl ⟨_,o,rfl⟩
 | map K E=>obtain ⟨es,o,h⟩:=f.map k K E z;grind
 | mit K E=>obtain ⟨es,o,c,h⟩:=f.mit k K E z;rw [H] at o;cases o;exact Or.inl ⟨_,h,rfl⟩
 | iter=>obtain ⟨s,p,o,h⟩:=f.iter k z;grind
 | bld T=>obtain ⟨s,o,h⟩:=f.bld k T z;grind
 | arr E fl=>
  obtain ⟨s,o,h⟩:=f.arr k E fl z;rw [H] at o;cases o;rcases h with ⟨g,h,_⟩ | ⟨h,_⟩
  ·exact Or.inl ⟨_,h,rfl⟩
  grind
theorem StFit.arrBack (f:StFit P st bs bs st st') {k J:Nat}{E:TypeId}{xs:List PV} (M:st'[k]?=some (.arr E J xs)) (aa:k<st.length):∃ g,st[k]?=some (.arr E g xs)/\(J=0->g=0):=by
 have H:k<bs.length:=by rw [<-f.len];grind
 have h:bs[k]?=some bs[k]:=Am H;generalize bs[k]=c at h;cases c with
 | acc=>rw [(f.acc k h).1] at M;cases M
 | box T p=>obtain ⟨s,vs,O,ab,Z,o,z,h3⟩:=f.box k T p h;grind
 | map K E=>obtain ⟨es,o,z⟩:=f.map k K E h;grind
 | mit K E=>obtain ⟨es,o,c,z⟩:=f.mit k K E h;grind
 | iter=>obtain ⟨s,p,o,z⟩:=f.iter k h;grind
 | bld T=>obtain ⟨s,o,z⟩:=f.bld k T h;grind
 | arr E' I=>obtain ⟨s,o,z⟩:=f.arr k E' I h;all_goals grind
theorem StFit.kept (f:StFit P st bs bs st st') {k:Nat}{b:BX} (M:st[k]?=some b) (h:k<bs.length):∃ o,st'[k]?=some o/\o.kind=b.kind:=by have z:st'[k]?=some (st'[k]'(by rw [f.len];exact h)):=Am _;rcases f.kind z with ⟨I,J,H⟩ | H;all_goals grind
theorem StFit.arrOn (f:StFit P st bs bs st st') {k g:Nat}{E:TypeId}{xs:List PV} (z:st[k]?=some (.arr E g xs)) (o:k<bs.length):∃ h,st'[k]?=some (.arr E h xs)/\(h=0->g=0):=by obtain ⟨J,H,I⟩:=f.kept z o;obtain ⟨h,ys,rfl⟩:=aim I;obtain ⟨M,O,Z⟩:=f.arrBack H (A5.1 z).1;grind
theorem ArrKeep.to {w w':World}{ow o:Own}{μ z:Nat->Nat}{k n:Nat}{E:TypeId} (h:ArrKeep w ow μ w' o z k E) (hk:k<n):ArrKeep w ow μ w' (owTo o n) z k E:=by intro cur H I;obtain ⟨J,M,cur',O,Z⟩:=h cur H I;grind [owTo_some]
theorem ArrKeep.from {w w':World}{ow o:Own}{μ z:Nat->Nat}{k n:Nat}{E:TypeId} (h:ArrKeep w (owTo ow n) μ w' o z k E) (I:k<n):ArrKeep w ow μ w' o z k E:=by intro cur H J;exact h cur H (owTo_some.2 ⟨J,I⟩)
theorem Objs.fit (f:StFit P st bs bs st st') (h:Objs P D ow μ st w):Objs P D (owTo ow bs.length) μ st' w:=by
 refine ⟨λk b I=>?_,λb k ob=>?_,h.dlt,λb k y ob I hy o d=>?_⟩
 ·have M:k<bs.length:=by rw [<-f.len];grind
  have O:bs[k]?=some bs[k]:=Am M;generalize bs[k]=c at O;have J:∀ c,ow c=some k->w.heap[c]?=w.heap[c]?/\owTo ow bs.length c=some k/\∀ o,D c o->D c o:=λc oc=>⟨rfl,owTo_some.2 ⟨oc,M⟩,λ_ d=>d⟩;cases c with
  | acc=>rw [(f.acc k O).1] at I;cases I;trivial
  | box T p=>obtain ⟨s,vs,ad,ag,af,H,z,h3⟩:=f.box k T p O;rw [h3] at I;cases I;obtain ⟨aa,T',Z,q2,q3,q4,q5⟩:=h.obj k _ H;exact ⟨aa,T',Z,q2,owTo_some.2 ⟨q3,M⟩,q4,amf f p s ag vs af ad _ z q5⟩
  | map K E=>obtain ⟨es,H,z⟩:=f.map k K E O;rw [z] at I;cases I;obtain ⟨ents,clock,kc,vc,Z,q2,q3⟩:=h.obj k _ H;exact ⟨ents,clock,kc,vc,Z,owTo_some.2 ⟨q2,M⟩,q3⟩
  | iter=>obtain ⟨s,p,H,z⟩:=f.iter k O;rw [z] at I;cases I;exact ObjRep.mono (P:=P) (b:=.iter s p) (h.obj k _ H) (λ_ _ d=>d) (Keeps.refl _ _) (λ_=>rfl) J
  | mit K E=>obtain ⟨es,H,c,z⟩:=f.mit k K E O;rw [H] at I;cases I;have h0:=ObjRep.mono (P:=P) (b:=.mit K E c es) (h.obj k _ z) (λ_ _ d=>d) (Keeps.refl _ _) (λ_=>rfl) J;obtain ⟨Z,q2,m,ab,c0,ae,q3,q4,q5⟩:=h0;exact ⟨Z,q2,m,ab,c0,ae,q3,q4,λe he=>by cases he⟩
  | bld T=>obtain ⟨s,H,z⟩:=f.bld k T O;rw [z] at I;cases I;exact ObjRep.mono (P:=P) (b:=.bld T s) (h.obj k _ H) (λ_ _ d=>d) (Keeps.refl _ _) (λ_=>rfl) J
  | arr E fl=>
   obtain ⟨s,H,z⟩:=f.arr k E fl O;rw [H] at I;cases I;rcases z with ⟨g,z,_⟩ | ⟨_,z⟩
   ·have h0:ObjRep P D w ow μ k (.arr E g s):=h.obj k _ z;exact ObjRep.mono (P:=P) (b:=.arr E g s) h0 (λ_ _ d=>d) (Keeps.refl _ _) (λ_=>rfl) J
   ·subst z;exact Or.inl rfl
 ·obtain ⟨H,z⟩:=owTo_some.1 ob;exact ⟨(h.owlt b k H).1,by rw [f.len];exact z⟩
 ·obtain ⟨H,z⟩:=owTo_some.1 ob;rcases f.kind I with ⟨b0,Z,q2⟩ | Z
  ·exact h.lone b k b0 H Z (af9 q2.symm hy) o d
  ·have:=(h.owlt b k H).2;omega
theorem WRel.frame (z:Γ.np<=bs.length) (f:StFit Γ.P st bs bs st st') (h:WRel Γ D ow μ st w):WRel Γ D (owTo ow bs.length) μ st' w:=by
 have H:=h.objs.fit f;refine ⟨λk T s o=>H.obj k _ o,λk K E es o=>H.obj k _ o,λk b o=>?_,H.owlt,h.dlt,h.os,h.tape,h.output,h.hs,h.old,h.dom0,h.domN,λb k ob Z=>h.owN b k (owTo_some.1 ob).1 Z,by rw [f.len];exact z,h.mu0,λk o=>?_,H.lone,h.keep0,λk o E xs e=>?_⟩
 ·have:=H.obj k b o;cases b with
  | box T s=>trivial
  | map K E es=>trivial
  | acc g=>trivial
  | hole=>trivial
  | _=>exact this
 ·obtain ⟨s,hs,p1⟩:=h.par k o;obtain ⟨b',I,J⟩:=f.kept hs (Az o z);grind
 ·obtain ⟨g,I,J⟩:=f.arrBack e (Az o h.np);have:=J rfl;subst this;obtain ⟨M,O⟩:=h.arr0 k o E xs I;exact ⟨M,O.to (Az o z)⟩
theorem Rel.frame {e I:Env}{a:Act} (M:Γ.np<=bs.length) (f:StFit Γ.P st bs bs st st') (J:∀ t,I t=.undef\/∃ Z,akh Γ.P st bs Z (e t)=some (I t)) (hr:Rel Γ e st a w):Rel Γ I st' a w:=by
 obtain ⟨D,ow,μ,hw,O⟩:=hr;refine ⟨D,owTo ow bs.length,μ,hw.frame M f,O.size,O.defers,λt=>?_⟩
 ·rcases J t with h | ⟨Z,h⟩
  ·rw [h];exact SRep.slot .undef
  ·have z:=O.slot t;have aa:∀ u o x,e t≠.gd u o x:=by
    intro u o x hg;rw [hg] at h;unfold akh at h;grind [aj2,ary,alg]
   have H:SRep Γ.P D w ow μ st (e t) (a.tmps.getD t Go.undef):=by
    cases J:e t with
    | gd u o x=>grind
    | _=>rw [J] at z;exact z
   exact (ade f H h).slot
theorem Frame.dec_spec {F:Frame}{e:Env}{x:F.ty} (h:F.dec P e st=some x):StFit P st F.bs F.bs st (F.st x)/\∀ t,F.env x t=.undef\/∃ Z,akh P st F.bs Z (e t)=some (F.env x t):=by
 unfold Frame.dec at h;split at h
 ·rename_i o H I J;have M:=at0 _ _ _ h;obtain ⟨l,h4⟩:=apt _ _ _ I;have h5:=aok _ _ _ _ J;have e1:F.st x=toSt F.bs H:=by
   grind [Frame.st,List.drop_left]
  have e2:F.env x=aj6 F.slots o:=by
   unfold Frame.env;rw [<-M];have:∀ (z:List Nat) (o H:List SV),o.length=z.length->aj6 z (o++H)=aj6 z o:=by
    intro z;induction z with
    | nil=>grind [aj6]
    | cons t z ih=>
     intro o H O;cases o with
     | nil=>simp at O
     | cons v o=>simp only [Bl,aj6];simp_all
   grind
  simp_all
 ·cases h
theorem Frame.dec_sound {F:Frame}{e:Env}{x:F.ty}{a:Act} (o:Γ.P=P) (z:Γ.np<=F.bs.length) (h:F.dec P e st=some x) (J:Rel Γ e st a w):Rel Γ (F.env x) (F.st x) a w:=by subst o;obtain ⟨H,I⟩:=Frame.dec_spec h;grind [Rel.frame]
theorem Frame.dec_pan {F:Frame}{e:Env}{x:F.ty}{v:Value}{a:Act} (I:Γ.P=P) (o:Γ.np<=F.bs.length) (h:F.dec P e st=some x) (M:PRel Γ (e 0) st v a w):PRel Γ (F.env x 0) (F.st x) v a w:=by
 subst I;obtain ⟨z,H⟩:=Frame.dec_spec h;obtain ⟨J,D,ow,μ,O,Z⟩:=M;refine ⟨J,D,owTo ow F.bs.length,μ,O.frame o z,?_⟩;rcases H 0 with h | ⟨sh,h⟩
 ·rw [h];exact .undef
 grind [ade]
end
def apo:LEx->LEx->Bool
 | .exit i,.exit j=>Nat.beq i j
 | .ret,.ret=>true
 | .pan,.pan=>true
 | _,_=>false
theorem aio {x y:LEx} (h:apo x y=true):x=y:=by unfold apo at h;grind [Nat.eq_of_beq_eq_true]
@[reducible] def XTy:List (LEx×Frame)->Type
 | []=>Empty
 | [x]=>x.2.ty
 | x::y::r=>x.2.ty⊕XTy (y::r)
def decX (P:Program):(X:List (LEx×Frame))->LEx->Env->List BX->Option (XTy X)
 | [],_,_,_=>none
 | [x],l,e,st=>bif apo x.1 l then x.2.dec P e st else none
 | x::y::r,l,e,st=>bif apo x.1 l then (match x.2.dec P e st with | some v=>some (.inl v) | none=>none) else (match decX P (y::r) l e st with | some v=>some (.inr v) | none=>none)
def exX:(X:List (LEx×Frame))->XTy X->LEx
 | [x],_=>x.1
 | x::_::_,.inl _=>x.1
 | _::y::r,.inr v=>exX (y::r) v
def envX:(X:List (LEx×Frame))->XTy X->Env
 | [x],v=>x.2.env v
 | x::_::_,.inl v=>x.2.env v
 | _::y::r,.inr v=>envX (y::r) v
def stX:(X:List (LEx×Frame))->XTy X->List BX
 | [x],v=>x.2.st v
 | x::_::_,.inl v=>x.2.st v
 | _::y::r,.inr v=>stX (y::r) v
def sumE {o z h:Type} (f:o->h) (g:z->h):o⊕z->h
 | .inl a=>f a
 | .inr b=>g b
def kX {R:Type}:(X:List (LEx×Frame))->XTy X->(LEx->Env->List BX->Option R)->Option R
 | [x],v,K=>K x.1 (x.2.env v) (x.2.st v)
 | x::y::r,v,K=>sumE (λv=>K x.1 (x.2.env v) (x.2.st v)) (λv=>kX (y::r) v K) v
theorem bd1 {R:Type}:∀ (X:List (LEx×Frame)) (v:XTy X) (K:LEx->Env->List BX->Option R),kX X v K=K (exX X v) (envX X v) (stX X v):=by
 intro X;induction X with
 | nil=>intro v;cases v
 | cons x r h=>
  intro v K;cases r with
  | nil=>rfl
  | cons y r=>
   cases v with
   | inl v=>rfl
   | inr v=>exact h v K
def npX (np:Nat) (X:List (LEx×Frame)):Bool:=X.all λx=>Nat.ble np x.2.bs.length
theorem atr:∀ (X:List (LEx×Frame)) (v:XTy X),NoGd (envX X v):=by
 intro X;induction X with
 | nil=>intro v;cases v
 | cons x r h=>
  intro v;cases r with
  | nil=>exact x.2.noGd v
  | cons y r=>
   cases v with
   | inl v=>exact x.2.noGd v
   | inr v=>exact h v
theorem ak9 {P:Program}{e:Env}{st:List BX}{l:LEx}:∀ (X:List (LEx×Frame)) (v:XTy X),decX P X l e st=some v->exX X v=l:=by
 intro X;induction X with
 | nil=>intro v;cases v
 | cons x r H=>
  intro v h;cases r with
  | nil=>
   simp only [decX] at h;cases o:apo x.1 l with
   | false=>grind
   | true=>exact aio o
  | cons y r=>
   simp only [decX] at h;cases o:apo x.1 l with
   | true=>
    rw [o] at h;simp only [Af] at h;split at h
    ·cases h;exact aio o
    ·cases h
   | false=>
    rw [o] at h;simp only [Ah] at h;split at h
    ·rename_i u z;cases h;exact H u z
    ·cases h
theorem aie {Γ:Ctx}{P:Program} (M:Γ.P=P) {w:World}{a:Act}{e:Env}{st:List BX}{l:LEx}:∀ (X:List (LEx×Frame)) (v:XTy X),npX Γ.np X=true->decX P X l e st=some v->exX X v=l/\(Rel Γ e st a w->Rel Γ (envX X v) (stX X v) a w):=by
 intro X;induction X with
 | nil=>intro v;cases v
 | cons x r Z=>
  intro v z h;have O:Γ.np<=x.2.bs.length:=by simp only [npX,Bi,Aj] at z;simp_all
  cases r with
  | nil=>
   simp only [decX] at h;cases o:apo x.1 l with
   | false=>grind
   | true=>rw [o] at h;exact ⟨aio o,λI=>Frame.dec_sound M O h I⟩
  | cons y r=>
   simp only [decX] at h;cases o:apo x.1 l with
   | true=>
    rw [o] at h;simp only [Af] at h;split at h
    ·rename_i u J;cases h;exact ⟨aio o,λI=>Frame.dec_sound M O J I⟩
    ·cases h
   | false=>
    rw [o] at h;simp only [Ah] at h;split at h
    ·rename_i u J;cases h;have H:npX Γ.np (y::r)=true:=by
      simp only [npX,Bi,Aj] at z ⊢;exact z.2
     exact Z u H J
    ·cases h
theorem ayg {Γ:Ctx}{P:Program} (M:Γ.P=P) {w:World}{a:Act}{v0:Value}{e:Env}{st:List BX}{l:LEx}:∀ (X:List (LEx×Frame)) (v:XTy X),npX Γ.np X=true->decX P X l e st=some v->exX X v=l/\(PRel Γ (e 0) st v0 a w->PRel Γ (envX X v 0) (stX X v) v0 a w):=by
 intro X;induction X with
 | nil=>intro v;cases v
 | cons x r Z=>
  intro v z h;have O:Γ.np<=x.2.bs.length:=by simp only [npX,Bi,Aj] at z;simp_all
  cases r with
  | nil=>
   simp only [decX] at h;cases o:apo x.1 l with
   | false=>grind
   | true=>rw [o] at h;exact ⟨aio o,λI=>Frame.dec_pan M O h I⟩
  | cons y r=>
   simp only [decX] at h;cases o:apo x.1 l with
   | true=>
    rw [o] at h;simp only [Af] at h;split at h
    ·rename_i u J;cases h;exact ⟨aio o,λI=>Frame.dec_pan M O J I⟩
    ·cases h
   | false=>
    rw [o] at h;simp only [Ah] at h;split at h
    ·rename_i u J;cases h;have H:npX Γ.np (y::r)=true:=by
      simp only [npX,Bi,Aj] at z ⊢;exact z.2
     exact Z u H J
    ·cases h
def aea {h o:Type} (step:h->Option (h⊕o)):Nat->h->Option o
 | 0,_=>none
 | n+1,x=>
  match step x with
  | none=>none
  | some (.inl x1)=>aea step n x1
  | some (.inr y)=>some y
theorem a0m {o z:Type}{step:o->Option (o⊕z)}:∀ (n m:Nat) (x:o) (y:z),aea step n x=some y->n<=m->aea step m x=some y:=by
 intro n;induction n with
 | zero=>grind [aea]
 | succ n I=>intro m x y h H;obtain ⟨k,rfl⟩:∃ k,m=k+1:=⟨m-1,by omega⟩;grind [aea]
open Classical in
noncomputable def aa3 {o z:Type} (step:o->Option (o⊕z)) (x:o):Option z:=
 if h:∃ n y,aea step n x=some y then aea step h.choose x else none
theorem aip {o z:Type}{step:o->Option (o⊕z)}{x:o}{y:z} (h:aa3 step x=some y):∃ n,aea step n x=some y:=by unfold aa3 at h;split at h;all_goals grind
theorem ar0 {o z:Type}{step:o->Option (o⊕z)}{x:o}{y:z} (n:Nat) (h:aea step n x=some y):aa3 step x=some y:=by unfold aa3;have H:∃ n y,aea step n x=some y:=⟨n,y,h⟩;rw [dif_pos H];grind [a0m,max,Nat.le_max_right,Nat.le_max_left]
theorem ayv {H J:Type} (step:H->Option (H⊕J)) (x:H):aa3 step x=(match step x with | none=>none | some (.inl x1)=>aa3 step x1 | some (.inr y)=>some y):=by
 cases I:step x with
 | none=>
  cases o:aa3 step x with
  | none=>rfl
  | some y=>
   obtain ⟨n,h⟩:=aip o;cases n with
   | zero=>simp [aea] at h
   | succ n=>grind [aea]
 | some s=>
  cases s with
  | inr y=>exact ar0 1 (by simp [aea,I])
  | inl x1=>
   show _=aa3 step x1;cases o:aa3 step x1 with
   | some y=>obtain ⟨n,h⟩:=aip o;exact ar0 (n+1) (by simp [aea,I,h])
   | none=>
    cases z:aa3 step x with
    | none=>rfl
    | some y=>
     obtain ⟨n,h⟩:=aip z;cases n with
     | zero=>simp [aea] at h
     | succ n=>grind [aea,ar0]
theorem aao {o z:Type}{step:o->Option (o⊕z)}{x x1:o} (h:step x=some (.inl x1)):aa3 step x=aa3 step x1:=by rw [ayv,h]
theorem aai {o z:Type}{step:o->Option (o⊕z)}{x:o}{y:z} (h:step x=some (.inr y)):aa3 step x=some y:=by rw [ayv,h]
noncomputable def aaf {o z:Type} (h:Nat) (step:o->Option (o⊕z)) (x:o):Option z:=
 match h with
 | 0=>aa3 step x
 | n+1=>aea step (n+1) x
theorem a0l {z H:Type}{o:Nat}{step:z->Option (z⊕H)}{x:z}{y:H} (h:aaf o step x=some y):∃ n,aea step n x=some y:=by unfold aaf at h;grind [aip]
theorem aec {h o:Type} (step:h->Option (h⊕o)) (x:h):aaf 0 step x=aa3 step x:=rfl
structure LoopE where
 key:Nat
 H:Frame
 X:List (LEx×Frame)
 step:H.ty->Option (H.ty⊕XTy X)
noncomputable def bd3 (P:Program) (h:Nat):List LoopE->(R:Type)->Nat->Env->List BX->(LEx->Env->List BX->Option R)->Option R
 | [],_,_,_,_,_=>none
 | l::r,R,key,e,st,K=>bif Nat.beq l.key key then (l.H.dec P e st).bind λx=>(aaf h l.step x).bind λy=>kX l.X y K else bd3 P h r R key e st K
def axj {h o:Type} (x:Option h):Option (h⊕o):=match x with | some v=>some (.inl v) | none=>none
def ajs {o h:Type} (x:Option h):Option (o⊕h):=match x with | some v=>some (.inr v) | none=>none
def aqv (C:Cfg) (h:Code) (l:LoopE):Prop:=
 ∀ (x:l.H.ty),exec C h { norm:=λe st=>axj (l.H.dec C.P e st),exit:=λi e st=>ajs (decX C.P l.X (.exit i) e st),ret:=λe st=>ajs (decX C.P l.X .ret e st),pan:=λs st=>ajs (decX C.P l.X .pan (λt=>bif Nat.beq t 0 then s else .undef) st) } (l.H.env x) (l.H.st x)=l.step x
theorem awu {C:Cfg} (hC:abt C) {I:Code}{l:LoopE} (hL:∀ b,b∈aaw I->LoopOk C b) (ab:Nat.ble C.np l.H.bs.length=true) (hX:npX C.np l.X=true) (J:aqv C I l):
 ∀ (n:Nat) (x:l.H.ty) (y:XTy l.X),aea l.step n x=some y->ax1 C I n (l.H.env x) (l.H.st x) (exX l.X y) (envX l.X y) (stX l.X y):=by
 intro n
 induction n with
 | zero=>grind [aea]
 | succ n ih=>
  intro x y h
  have hs:=J x
  cases hx:l.step x with
  | none=>grind [aea]
  | some s=>
   rw [hx] at hs
   refine a0o hC hL hs (λe1 M o hg=>?_) (λi e1 M o hg=>?_) (λe1 M o hg=>?_) (λs1 M o=>?_)
   ·simp only [axj] at o;split at o
    ·rename_i x1 h1;cases o;simp only [aea,hx] at h;intro Γ hP hn Z Q a w hr aa hQ;exact ih x1 y h Γ hP hn Z Q a w (Frame.dec_sound hP (by simp_all) h1 hr) (l.H.noGd x1) hQ
    ·cases o
   ·simp only [ajs] at o;grind [aea,Option.some.injEq,ak9,aie]
   ·simp only [ajs] at o;grind [aea,Option.some.injEq,ak9,aie]
   ·simp only [ajs] at o;split at o
    ·rename_i z O;cases o;simp only [aea,hx,Ak] at h;subst h;exact ⟨ak9 l.X z O,λ Γ v a w hP hn hp=>(ayg (a:=a) (w:=w) (v0:=v) hP l.X z (by grind) O).2 hp⟩
    ·cases o
theorem a4s {C:Cfg} (hC:abt C) {o:Code} (J:Nat) (l:LoopE) (hL:∀ b,b∈aaw o->LoopOk C b) (z:(Nat.ble C.np l.H.bs.length&&npX C.np l.X)=true) (I:aqv C o l)
 (M:∀ (R:Type) (e:Env) (st:List BX) (K:LEx->Env->List BX->Option R),C.lam R (ahw o) e st K=(l.H.dec C.P e st).bind λx=>(aaf J l.step x).bind λy=>kX l.X y K):LoopOk C o:=by
 simp only [Aj] at z
 refine LoopOk.one λR e st K r h=>?_
 rw [M] at h
 simp only [Bd] at h
 obtain ⟨x,h1,y,Z,h3⟩:=h
 rw [bd1] at h3
 obtain ⟨n,Z⟩:=a0l Z
 refine ⟨exX l.X y,envX l.X y,stX l.X y,n,h3,atr _ _,?_⟩
 intro Γ hP hn O Q a w hr hg hQ
 exact awu hC hL z.1 z.2 I n x y Z Γ hP hn O Q a w (Frame.dec_sound hP (by simp_all) h1 hr) (l.H.noGd x) hQ
structure AFrame where
 n:Nat
 bs:List BSh
 sh:List Shape
@[reducible] def AFrame.ty (A:AFrame):Type:=TyL A.sh
def AFrame.args (A:AFrame) (x:A.ty):List SV:=(encL A.sh x).take A.n
def AFrame.st (A:AFrame) (x:A.ty):List BX:=toSt A.bs ((encL A.sh x).drop A.n)
def air (P:Program) (st:List BX) (bs:List BSh):List SV->List Shape->Option (List SV)
 | [],_=>some []
 | s::ss,sh::shs=>match akh P st bs sh s,air P st bs ss shs with | some v,some vs=>some (v::vs) | _,_=>none
 | _::_,[]=>none
def AFrame.get (A:AFrame) (P:Program) (h:List SV) (st:List BX):Option A.ty:=
 bif Nat.beq h.length A.n then
  match air P st A.bs h A.sh,afk P st A.bs A.bs st (A.sh.drop A.n) with
  | some z,some o=>getL A.sh (z++o)
  | _,_=>none
 else none
theorem ar6 {P:Program}{st:List BX}{bs:List BSh}:∀ (z:List SV) (o:List Shape) (H:List SV),air P st bs z o=some H->H.length=z.length/\∀ (i:Nat) (x:SV),H[i]?=some x->∃ y I,z[i]?=some y/\akh P st bs I y=some x:=by
 intro z;induction z with
 | nil=>intro o H h;simp [air] at h;grind
 | cons s ss J=>
  intro o H h;cases o with
  | nil=>simp [air] at h
  | cons I o=>simp only [air] at h;grind
theorem AFrame.get_spec {P:Program}{A:AFrame}{o:List SV}{st:List BX}{x:A.ty} (h:A.get P o st=some x):o.length=A.n/\StFit P st A.bs A.bs st (A.st x)/\(A.args x).length=o.length/\∀ (i:Nat) (s:SV),(A.args x)[i]?=some s->∃ y H,o[i]?=some y/\akh P st A.bs H y=some s:=by
 unfold AFrame.get at h;cases z:Nat.beq o.length A.n with
 | false=>grind
 | true=>rw [z] at h;have I:=Ae z;simp only [Af] at h;grind [at0,ar6,aok,toSt,AFrame.st,List.drop_left,AFrame.args,List.take_left]
theorem Meets.enter {P:Program}{A:AFrame}{f:FuncId}{as:List SV}{st:List BX}{x:A.ty} (h:A.get P as st=some x) (O:st.length<=A.bs.length) {rs:List SV}{st':List BX} (hm:Meets P f (A.args x) (A.st x) rs st'):Meets P f as st rs st':=by
 obtain ⟨h1,h2,h3,h4⟩:=AFrame.get_spec h;refine ⟨hm.1,λD ow μ w J I=>?_⟩;have aa:Pre P D (owTo ow A.bs.length) μ (A.st x) w (A.args x) J:=by
  refine ⟨by rw [I.size,h3],λi s v hs hv=>?_,I.objs.fit h2,λp z g hg=>?_⟩
  ·obtain ⟨y,sh,hy,hl⟩:=h4 i s hs;exact ade h2 (I.arg i y v hy hv) hl
  ·obtain ⟨q1,q2⟩:=I.tabs p z g hg;grind [owTo]
 refine (hm.2 D _ μ w J aa).mono λe w' ⟨v,D',he,z⟩=>⟨v,D',he,z.dom,λb o d=>?_,?_,z.os,z.tape,z.output,z.size,λb hb hn=>z.old b hb (by simp [owTo,hn]),z.keeps⟩
 ·rcases z.new b o d with d | d | d;all_goals grind [owTo]
 ·obtain ⟨ad,ae,Z⟩:=z.rest;refine ⟨ad,ae,Z.objs,Z.res,λb k hb H=>(owTo_some.1 (Z.own b k hb H)).1,λk b M=>?_,λk E g xs ys M ab=>?_⟩
  ·obtain ⟨b1,q1,q2⟩:=h2.kept M (Az (A5.1 M).1 O);obtain ⟨b2,r1,r2,r3⟩:=Z.keep k b1 q1;grind [af9,aua]
  ·have H:=Az (A5.1 M).1 O;obtain ⟨fl,q1,q2⟩:=h2.arrOn M H;obtain ⟨r1,r2⟩:=Z.same k E fl xs ys q1 ab;exact ⟨r1,r2.from H⟩
theorem Post.leave {P:Program}{A:AFrame}{D:Dom}{w:World}{ow:Own}{μ:Nat->Nat}{st:List BX}{rs:List SV}{s:List BX}{v:Value}{D':Dom}{w':World}{y:A.ty} (h:A.get P rs s=some y) (ad:st.length<=A.bs.length) (H:Post P D w ow μ st rs s v D' w'):Post P D w ow μ st (A.args y) (A.st y) v D' w'/\ahq (A.args y) v=ahq rs v:=by
 obtain ⟨h1,h2,h3,h4⟩:=AFrame.get_spec h;obtain ⟨af,ag,hr⟩:=H.rest;have aj:∀ s0,rs≠[.pan s0]:=by rintro s0 rfl;obtain ⟨s1,aa⟩:=List.length_eq_one_iff.1 (show (A.args y).length=1 by rw [h3];rfl);obtain ⟨z,sh,hz,ae⟩:=h4 0 s1 (by rw [aa];rfl);grind [a4t]
 rcases abz hr.res with ⟨s0,e,_⟩ | ⟨_,O,ab⟩
 ·grind
 have M:SRep P D' w' (owTo af A.bs.length) ag (A.st y) (adg (A.args y)) v:=by
  have o:=O;by_cases hl:rs.length=1
  ·obtain ⟨s0,rfl⟩:=List.length_eq_one_iff.1 hl;obtain ⟨s1,aa⟩:=List.length_eq_one_iff.1 (show (A.args y).length=1 by omega);rw [aa] at h4 ⊢;obtain ⟨z,sh,hz,ae⟩:=h4 0 s1 rfl;simp at hz;subst hz;exact ade h2 o ae
  ·have e1:∀ l:List SV,l.length≠1->adg l=.tup l:=by
    intro l hl;match l,hl with
    | [],_=>rfl
    | [x],hl=>grind
    | x::y::r,_=>rfl
   rw [e1 rs hl] at o;rw [e1 _ (by omega)];cases o with
   | tup hs ai=>refine .tup (by omega) (λi x u hx hu=>?_);grind [ade]
 obtain ⟨Z,I⟩:=afa M;refine ⟨⟨H.dom,H.new,?_,H.os,H.tape,H.output,H.size,H.old,H.keeps⟩,I.trans ab.symm⟩;refine ⟨owTo af A.bs.length,ag,hr.objs.fit h2,Z,λb k hb J=>hr.own b k (owTo_some.1 hb).1 J,λk b hk=>?_,λk E g xs ys hk ah=>?_⟩
 ·obtain ⟨b1,q1,q2,q3⟩:=hr.keep k b hk;obtain ⟨b2,r1,r2⟩:=h2.kept q1 (Az (A5.1 hk).1 ad);grind
 ·have J:=Az (A5.1 hk).1 ad;obtain ⟨b1,p1,p2,_⟩:=hr.keep k _ hk;obtain ⟨g1,q1,q2⟩:=h2.arrBack ah (A5.1 p1).1;have:=q2 rfl;subst this;obtain ⟨r1,r2⟩:=hr.same k E g xs ys hk q1;exact ⟨r1,r2.to J⟩
theorem Post.leaveP {P:Program}{A:AFrame}{D:Dom}{w:World}{ow:Own}{μ:Nat->Nat}{st:List BX}{s0:SV}{s:List BX}{v:Value}{D':Dom}{w':World}{y:A.ty} (h:A.get P [s0] s=some y) (M:st.length<=A.bs.length) (o:Post P D w ow μ st [.pan s0] s v D' w'):Post P D w ow μ st [.pan ((A.args y).headD .undef)] (A.st y) v D' w':=by
 obtain ⟨h1,Z,h3,h4⟩:=AFrame.get_spec h;obtain ⟨ad,ae,J⟩:=o.rest;refine ⟨o.dom,o.new,?_,o.os,o.tape,o.output,o.size,o.old,o.keeps⟩;obtain ⟨s1,O⟩:=List.length_eq_one_iff.1 (show (A.args y).length=1 by rw [h3];rfl);obtain ⟨z,sh,hz,ab⟩:=h4 0 s1 (by rw [O];rfl);simp at hz;subst hz;rw [O];refine ⟨owTo ad A.bs.length,ae,J.objs.fit Z,ade Z J.res ab,λb k hb H=>J.own b k (owTo_some.1 hb).1 H,λk b I=>?_,λk E g xs ys I aa=>?_⟩
 ·obtain ⟨b1,q1,q2,q3⟩:=J.keep k b I;obtain ⟨b2,r1,r2⟩:=Z.kept q1 (Az (A5.1 I).1 M);grind
 ·have H:=Az (A5.1 I).1 M;obtain ⟨b1,p1,p2,_⟩:=J.keep k _ I;obtain ⟨g1,q1,q2⟩:=Z.arrBack aa (A5.1 p1).1;have:=q2 rfl;subst this;obtain ⟨r1,r2⟩:=J.same k E g xs ys I q1;exact ⟨r1,r2.to H⟩
structure CallE where
 f:FuncId
 A:AFrame
 R:AFrame
 F:A.ty->Option R.ty
 dflt:R.ty
def CallE.Ok (P:Program) (c:CallE):Prop:=∀ (x:c.A.ty) (y:c.R.ty),c.F x=some y->Meets P c.f (c.A.args x) (c.A.st x) (c.R.args y) (c.R.st y)
structure CallP where
 f:FuncId
 A:AFrame
 R:AFrame
 X:AFrame
 F:A.ty->Option (R.ty⊕X.ty)
 dflt:R.ty
def CallP.Ok (P:Program) (c:CallP):Prop:=∀ (x:c.A.ty),(∀ (y:c.R.ty),c.F x=some (.inl y)->Meets P c.f (c.A.args x) (c.A.st x) (c.R.args y) (c.R.st y))/\∀ (y:c.X.ty),c.F x=some (.inr y)->Meets P c.f (c.A.args x) (c.A.st x) [.pan ((c.X.args y).headD .undef)] (c.X.st y)
def azp (P:Program):List CallP->(R:Type)->Bool->FuncId->List SV->List BX->(List SV->List BX->Option R)->Option R
 | [],_,_,_,_,_,_=>none
 | c::r,R,b,f,as,st,K=>
  bif Nat.beq c.f f&&Nat.ble st.length c.A.bs.length then
   match c.A.get P as st with
   | some x=>(bif b then c.F x else some (.inl c.dflt)).bind λy=>sumE (λy=>K (c.R.args y) (c.R.st y)) (λy=>K [.pan ((c.X.args y).headD .undef)] (c.X.st y)) y
   | none=>azp P r R b f as st K
  else azp P r R b f as st K
def atb (P:Program) (h:List CallP):List CallE->(R:Type)->Bool->FuncId->List SV->List BX->(List SV->List BX->Option R)->Option R
 | [],R,b,f,as,st,K=>azp P h R b f as st K
 | c::r,R,b,f,as,st,K=>
  bif Nat.beq c.f f&&Nat.ble st.length c.A.bs.length then
   match c.A.get P as st with
   | some x=>(bif b then c.F x else some c.dflt).bind λy=>K (c.R.args y) (c.R.st y)
   | none=>atb P h r R b f as st K
  else atb P h r R b f as st K
theorem a7p {P:Program}:∀ (cs:List CallP),(∀ c,c∈cs->c.Ok P)->∀ (R:Type) (b:Bool) (f:FuncId) (H:List SV) (st:List BX) (K:List SV->List BX->Option R) (r:R),azp P cs R b f H st K=some r->
 (b=true->∃ rs st',K rs st'=some r/\Meets P f H st rs st')/\∃ rs st',K rs st'=some r:=by
 intro cs
 induction cs with
 | nil=>grind [azp]
 | cons c cs ih=>
  intro z R b f H st K r h
  have J:=ih (λc hc=>z c (List.mem_cons_of_mem _ hc)) R b f H st K r
  simp only [azp] at h
  cases o:(Nat.beq c.f f&&Nat.ble st.length c.A.bs.length) with
  | false=>grind
  | true=>
   rw [o] at h
   simp only [Aj] at o
   have:=Ae o.1;subst this
   simp only [Af] at h
   split at h
   ·rename_i x Z;cases b with
    | true=>
     simp only [Af,Bd] at h;obtain ⟨y,M,I⟩:=h;have O:=z c (by simp) x;cases y with
     | inl y=>exact ⟨λ_=>⟨_,_,I,Meets.enter Z (Aq o.2) (O.1 y M)⟩,_,_,I⟩
     | inr y=>exact ⟨λ_=>⟨_,_,I,Meets.enter Z (Aq o.2) (O.2 y M)⟩,_,_,I⟩
    | false=>simp only [Ah,Aa] at h;exact ⟨λh=>absurd h (by decide),_,_,h⟩
   ·exact J h
theorem a2g {C:Cfg}{M:List CallP} (I:∀ c,c∈M->c.Ok C.P):∀ (cs:List CallE),(∀ c,c∈cs->c.Ok C.P)->∀ (R:Type) (b:Bool) (f:FuncId) (o:List SV) (st:List BX) (K:List SV->List BX->Option R) (r:R),atb C.P M cs R b f o st K=some r->
 (b=true->∃ rs st',K rs st'=some r/\Meets C.P f o st rs st')/\∃ rs st',K rs st'=some r:=by
 intro cs
 induction cs with
 | nil=>intro _ R b f o st K r h;exact a7p M I R b f o st K r h
 | cons c cs ih=>
  intro z R b f o st K r h
  have J:=ih (λc hc=>z c (List.mem_cons_of_mem _ hc)) R b f o st K r
  simp only [atb] at h
  cases H:(Nat.beq c.f f&&Nat.ble st.length c.A.bs.length) with
  | false=>grind
  | true=>
   rw [H] at h
   simp only [Aj] at H
   have:=Ae H.1;subst this
   simp only [Af] at h
   split at h
   ·rename_i x hx;cases b with
    | true=>simp only [Af,Bd] at h;obtain ⟨y,Z,O⟩:=h;refine ⟨λ_=>⟨_,_,O,?_⟩,_,_,O⟩;exact Meets.enter hx (Aq H.2) (z c (by simp) x y Z)
    | false=>grind
   ·exact J h
@[reducible] noncomputable def cfg (P:Program) (n np:Nat) (h:List CallE) (o:List LoopE) (z:Nat) (H:List CallP:=[]) (own:Bool:=false):Cfg:=
 { P:=P,own:=own,n:=n,np:=np,call:=atb P H h,lam:=bd3 P z o }
theorem ajf {P:Program}{n np:Nat}{o:List CallE}{z:List LoopE}{H:Nat}{I:List CallP}{own:Bool} (h:∀ c,c∈o->c.Ok P) (M:∀ c,c∈I->c.Ok P):abt (cfg P n np o z H I own):=
 λR b f J st K r O=>a2g (C:=cfg P n np o z H I own) M o h R b f J st K r O
theorem ba1 {P:Program}:∀ c,c∈([]:List CallP)->c.Ok P:=λc h=>by cases h
theorem bdi {P:Program}{c:CallP}{cs:List CallP} (h:c.Ok P) (o:∀ c,c∈cs->c.Ok P):∀ d,d∈c::cs->d.Ok P:=by grind
theorem bc7 {P:Program}{n np:Nat}{o:List CallE}{z:List LoopE}{H:Nat} (h:∀ c,c∈o->c.Ok P):abt (cfg P n np o z H):=ajf h ba1
def lp (c:Code) (i:Nat):Code:=(aaw c).getD i .skip
def act (fn:Func):Code:=match fn.body with | some c=>c | none=>.skip
theorem bd6 {C:Cfg}{c:Code} (h:(aaw c).length=0):∀ b,b∈aaw c->LoopOk C b:=by grind
theorem aqg {C:Cfg}{c:Code} (n:Nat) (h:(aaw c).length=n) (H:∀ i,i<n->LoopOk C (lp c i)):∀ b,b∈aaw c->LoopOk C b:=by intro b o;obtain ⟨i,z,rfl⟩:=List.mem_iff_getElem.1 o;grind [lp,List.getElem?_eq_getElem]
theorem loopCut {C:Cfg}{o:Code} (h:∀ (R:Type) (e:Env) (st:List BX) (K:LEx->Env->List BX->Option R),C.lam R (ahw o) e st K=none):LoopOk C o:=λR e st K r z=>by grind
theorem bdk {P:Program}:∀ c,c∈([]:List CallE)->c.Ok P:=λc h=>by cases h
theorem bdj {P:Program}{c:CallE}{cs:List CallE} (h:c.Ok P) (o:∀ c,c∈cs->c.Ok P):∀ d,d∈c::cs->d.Ok P:=by grind
theorem ayx {C:Cfg} (J:abt C) {f:FuncId}{fn:Func}{c:Code} (hf:C.P.funcs[f]?=some fn) (Z:fn.body=some c) (hn:fn.ntmps=C.n) (z:(fn.name== "runtime.NumGoroutine")=false) (O:∀ o,o∈aaw c->LoopOk C o)
 {A R:AFrame}{F:A.ty->Option R.ty} (M:∀ x,awd C fn (A.args x) (A.st x) (R.get C.P)=F x) (H:∀ x,(Nat.ble (A.args x).length C.n&&Nat.beq (A.st x).length C.np&&Nat.ble (A.st x).length R.bs.length)=true) (x:A.ty) (y:R.ty) (h:F x=some y):
 Meets C.P f (A.args x) (A.st x) (R.args y) (R.st y):=by
 have I:=H x
 simp only [Aj] at I
 exact ajh J hf Z hn z O (r:=y) ((M x).trans h) (Aq I.1.1) (Ae I.1.2) (λrs s hk D w ow μ v D' w' hp=>hp.leave hk (Aq I.2))
def getP (P:Program) (R X:AFrame) (rs:List SV) (st:List BX):Option (R.ty⊕X.ty):=fork rs (axj (R.get P rs st)) (λs=>ajs (X.get P [s] st))
theorem bd9 {C:Cfg} (hC:abt C) {f:FuncId}{fn:Func}{c:Code} (hf:C.P.funcs[f]?=some fn) (hb:fn.body=some c) (hn:fn.ntmps=C.n) (H:(fn.name== "runtime.NumGoroutine")=false) (hL:∀ I,I∈aaw c->LoopOk C I)
 {A R X:AFrame}{F:A.ty->Option (R.ty⊕X.ty)} (hF:∀ x,awd C fn (A.args x) (A.st x) (getP C.P R X)=F x) (O:∀ x,(Nat.ble (A.args x).length C.n&&Nat.beq (A.st x).length C.np&&Nat.ble (A.st x).length R.bs.length&&Nat.ble (A.st x).length X.bs.length)=true) (x:A.ty):
 (∀ (y:R.ty),F x=some (.inl y)->Meets C.P f (A.args x) (A.st x) (R.args y) (R.st y))/\∀ (y:X.ty),F x=some (.inr y)->Meets C.P f (A.args x) (A.st x) [.pan ((X.args y).headD .undef)] (X.st y):=by
 have M:=O x
 simp only [Aj] at M
 refine ⟨λy h=>ajh hC hf hb hn H hL (r:=.inl y) ((hF x).trans h) (Aq M.1.1.1) (Ae M.1.1.2) (λrs s o D w ow μ v D' w' Z=>?_),λy h=>ajh hC hf hb hn H hL (r:=.inr y) ((hF x).trans h) (Aq M.1.1.1) (Ae M.1.1.2) (λrs s o D w ow μ v D' w' Z=>?_)⟩
 ·unfold getP at o;have J:=aeq o;clear o;rcases J with ⟨s0,rfl,o⟩ | ⟨_,o⟩
  ·simp only [ajs] at o;grind
  ·simp only [axj] at o;split at o
   ·rename_i z hz;cases o;exact Z.leave hz (Aq M.1.2)
   ·cases o
 ·unfold getP at o;have J:=aeq o;clear o;rcases J with ⟨s0,rfl,o⟩ | ⟨_,o⟩
  ·simp only [ajs] at o;split at o
   ·rename_i z hz;cases o;exact ⟨Z.leaveP hz (Aq M.2),rfl⟩
   ·cases o
  ·simp only [axj] at o;grind
end Go.Ab
namespace Go.Ab
open Go
set_option maxRecDepth 100000
def isT (o:Option Bool):Bool:=match o with | some true=>true | _=>false
theorem a8q {o:Option Bool} (h:isT o=true):o=some true:=by grind [isT]
noncomputable def limQ {z H:Type} (o:Nat) (G:Nat->z->Option H) (x:z):Option H:=
 match o with
 | 0=>open Classical in if h:∃ y,∃ N,∀ n,N<=n->G n x=some y then some (Classical.choose h) else none
 | n+1=>G (n+1) x
theorem a4m {z H:Type}{o:Nat}{G:Nat->z->Option H}{x:z}{y:H} (h:limQ o G x=some y):∃ n,G n x=some y:=by
 unfold limQ at h;split at h
 ·split at h
  ·rename_i J;cases h;obtain ⟨N,I⟩:=Classical.choose_spec J;exact ⟨N,I N (Nat.le_refl _)⟩
  ·cases h
 grind
theorem a0i {z H:Type}{G:Nat->z->Option H}{x:z}{y:H} (N:Nat) (h:∀ n,N<=n->G n x=some y):limQ 0 G x=some y:=by have o:∃ y,∃ N,∀ n,N<=n->G n x=some y:=⟨y,N,h⟩;unfold limQ;simp only [o,dif_pos];obtain ⟨M,I⟩:=Classical.choose_spec o;rw [<-I (max N M) (Nat.le_max_right _ _),h (max N M) (Nat.le_max_left _ _)]
theorem okLim {P:Program} (E:CallE) {o:Nat}{G:Nat->E.A.ty->Option E.R.ty} (H:∀ x,E.F x=limQ o G x) (h:∀ n,CallE.Ok P ⟨E.f,E.A,E.R,G n,E.dflt⟩):E.Ok P:=by intro x y z;rw [H] at z;obtain ⟨n,I⟩:=a4m z;exact h n x y I
theorem beg {P:Program}{f:FuncId}{A R:AFrame}{d:R.ty}:CallE.Ok P ⟨f,A,R,λ_=>none,d⟩:=λx y h=>by cases h
theorem okE {P:Program}{E:CallE}{C:Cfg} (fn:Func) (H:abt C) (J:∀ b,b∈aaw (act fn)->LoopOk C b) (M:C.P=P:=by kernel_rfl) (Z:C.P.funcs[E.f]?=some fn:=by kernel_rfl) (O:fn.body=some (act fn):=by kernel_rfl)
 (hn:fn.ntmps=C.n:=by kernel_rfl) (o:(fn.name== "runtime.NumGoroutine")=false:=by kernel_rfl) (I:∀ x,awd C fn (E.A.args x) (E.A.st x) (E.R.get C.P)=E.F x:=by intro x;kernel_rfl)
 (z:∀ x,(Nat.ble (E.A.args x).length C.n&&Nat.beq (E.A.st x).length C.np&&Nat.ble (E.A.st x).length E.R.bs.length)=true:=by intro x;kernel_rfl):E.Ok P:=by
 subst M
 exact λx y h=>ayx H Z O hn o J I z x y h
theorem okL {C:Cfg} (M:abt C) {h:Code} (o:Nat) (l:LoopE) (O:∀ b,b∈aaw h->LoopOk C b) (J:(Nat.ble C.np l.H.bs.length&&npX C.np l.X)=true:=by kernel_rfl) (z:aqv C h l:=by intro x;kernel_rfl)
 (I:∀ (R:Type) (e:Env) (st:List BX) (K:LEx->Env->List BX->Option R),C.lam R (ahw h) e st K=(l.H.dec C.P e st).bind λx=>(aaf o l.step x).bind λy=>kX l.X y K:=by intro R e st K;kernel_rfl):LoopOk C h:=a4s M o l O J z I
theorem q0 {P:Program}:∀ c,c∈([]:List CallE)->c.Ok P:=bdk
theorem qc {P:Program}{c:CallE}{cs:List CallE} (h:c.Ok P) (o:∀ c,c∈cs->c.Ok P):∀ d,d∈c::cs->d.Ok P:=bdj h o
theorem L0 {C:Cfg}{c:Code} (h:(aaw c).length=0:=by kernel_rfl):∀ b,b∈aaw c->LoopOk C b:=bd6 h
theorem L1 {C:Cfg}{c:Code} (a:LoopOk C (lp c 0)) (h:(aaw c).length=1:=by kernel_rfl):∀ b,b∈aaw c->LoopOk C b:=aqg 1 h λi o=>by grind
theorem L2 {C:Cfg}{c:Code} (a:LoopOk C (lp c 0)) (b:LoopOk C (lp c 1)) (h:(aaw c).length=2:=by kernel_rfl):∀ b,b∈aaw c->LoopOk C b:=aqg 2 h λi o=>by grind
theorem L3 {C:Cfg}{c:Code} (a:LoopOk C (lp c 0)) (b:LoopOk C (lp c 1)) (d:LoopOk C (lp c 2)) (h:(aaw c).length=3:=by kernel_rfl):∀ b,b∈aaw c->LoopOk C b:=aqg 3 h λi o=>by grind
theorem L4 {C:Cfg}{c:Code} (a:LoopOk C (lp c 0)) (b:LoopOk C (lp c 1)) (d:LoopOk C (lp c 2)) (e:LoopOk C (lp c 3)) (h:(aaw c).length=4:=by kernel_rfl):∀ b,b∈aaw c->LoopOk C b:=aqg 4 h λi o=>by
 match i,o with
 | 0,_=>exact a
 | 1,_=>exact b
 | 2,_=>exact d
 | 3,_=>exact e
theorem p0 {P:Program}:∀ c,c∈([]:List CallP)->c.Ok P:=ba1
theorem pc {P:Program}{c:CallP}{cs:List CallP} (h:c.Ok P) (o:∀ c,c∈cs->c.Ok P):∀ d,d∈c::cs->d.Ok P:=bdi h o
theorem awx {P:Program}{f:FuncId}{E:TypeId}{xs:List PV} (h0:xs=[]->Meets P f [.nils] [] [.nils] []) (h1:Meets P f [.sln E xs] [] [.arr 0 1 E] [.arr E 1 xs]):Meets P f [.slice E xs] [] [.arr 0 1 E] [.arr E 1 xs]:=by
 refine ⟨h1.1,λD ow μ w I H=>?_⟩;obtain ⟨v,rfl⟩:∃ v,I=#[v]:=by
  have:=H.size;match I,this with
  | ⟨[a]⟩,_=>grind
 have O:=H.arg 0 _ v rfl rfl;have J:∀ {s:SV},SRep P D w ow μ [] s v->Pre P D ow μ [] w [s] #[v]:=λ{s} h=>⟨rfl,λi s' v' hs hv=>by grind,H.objs,H.tabs⟩
 cases O with
 | slice O=>
  have hd:v=.slice none 0 0/\xs=[]\/∃ a n c,v=.slice (some a) n c:=by
   cases O with
   | @nil a c ab=>cases a with
    | none=>grind
    | some a=>grind
   | mk=>grind
  rcases hd with ⟨rfl,rfl⟩ | ⟨a,n,c,rfl⟩
  ·refine ((h0 rfl).2 D ow μ w _ (J .nils)).mono λe w' he=>?_;obtain ⟨v',D',rfl,z⟩:=he;obtain ⟨Z,aa,M⟩:=z.rest;refine ⟨v',D',rfl,z.dom,z.new,⟨Z,aa,⟨λk b e=>?_,λb k o=>?_,M.objs.dlt,λb k x o e hx q=>?_⟩,?_,M.own,λk b e=>by simp at e,λk E g xs ys e=>by simp at e⟩,z.os,z.tape,z.output,z.size,z.old,z.keeps⟩
   ·match k,e with
    | 0,e=>simp at e;subst e;exact Or.inl rfl
   ·have:=(M.objs.owlt b k o).2;simp at this
   ·have:=(M.objs.owlt b k o).2;simp at this
   ·have hr:=M.res;simp only [ahk,adg] at hr ⊢;cases hr;exact .arrNil rfl
  ·exact h1.2 D ow μ w _ (J (.sln O))
structure KC (P:Program) where
 c:CallE
 ok:c.Ok P
structure KP (P:Program) where
 c:CallP
 ok:c.Ok P
def cS {P:Program}:List (KC P)->List CallE
 | []=>[]
 | k::r=>k.c::cS r
def pS {P:Program}:List (KP P)->List CallP
 | []=>[]
 | k::r=>k.c::pS r
theorem bdh {P:Program}:∀ l:List (KC P),∀ c,c∈cS l->c.Ok P
 | []=>q0
 | k::r=>qc k.ok (bdh r)
theorem bei {P:Program}:∀ l:List (KP P),∀ c,c∈pS l->c.Ok P
 | []=>p0
 | k::r=>pc k.ok (bei r)
def Shape.df:(s:Shape)->s.ty
 | .bool=>false
 | .int _=>0
 | .str=>[]
 | .slice _=>[]
 | .data _=>.bad
 | .map _ _=>[]
 | .acc _ _=>[]
 | .pto _=>.bad
 | .raw=>default
 | .eif=>false
 | .ifc _=>.bad
 | .ifs _ _=>[]
 | .sln _=>[]
 | .con _=>()
def dfL:(l:List Shape)->TyL l
 | []=>()
 | [s]=>s.df
 | s::t::r=>(s.df,dfL (t::r))
@[reducible] noncomputable def kcfg (P:Program) (fn:Func) (np:Nat) (h:List (KC P)) (o:List LoopE) (z:Nat) (H:List (KP P):=[]) (own:Bool:=false):Cfg:=cfg P fn.ntmps np (cS h) o z (pS H) own
theorem aac {P:Program}{fn:Func}{np:Nat}{h:List (KC P)}{o:List LoopE}{z:Nat}{H:List (KP P)}{own:Bool}:abt (kcfg P fn np h o z H own):=ajf (bdh h) (bei H)
def kj {P:Program} (f:FuncId) (A R:AFrame) (F:A.ty->Option R.ty) (fn:Func) (h:List (KC P)) (H:List (KP P)) (own:Bool) (M:∀ b,b∈aaw (act fn)->LoopOk (kcfg P fn A.bs.length h [] 0 H own) b) (Z:P.funcs[f]?=some fn:=by kernel_rfl) (O:fn.body=some (act fn):=by kernel_rfl)
 (o:(fn.name== "runtime.NumGoroutine")=false:=by kernel_rfl) (J:∀ x,awd (kcfg P fn A.bs.length h [] 0 H own) fn (A.args x) (A.st x) (R.get P)=F x:=by intro x;kernel_rfl)
 (z:∀ x,(Nat.ble (A.args x).length fn.ntmps&&Nat.beq (A.st x).length A.bs.length&&Nat.ble (A.st x).length R.bs.length)=true:=by intro x;kernel_rfl):KC P:=
 ⟨⟨f,A,R,F,dfL R.sh⟩,λx y I=>ayx aac Z O rfl o M J z x y I⟩
def ke {P:Program} (f:FuncId) (A R:AFrame) (F:A.ty->Option R.ty) (fn:Func) {C:Cfg} (z:abt C) (I:∀ b,b∈aaw (act fn)->LoopOk C b) (J:C.P=P:=by kernel_rfl) (O:C.P.funcs[f]?=some fn:=by kernel_rfl) (M:fn.body=some (act fn):=by kernel_rfl)
 (Z:fn.ntmps=C.n:=by kernel_rfl) (h:(fn.name== "runtime.NumGoroutine")=false:=by kernel_rfl) (H:∀ x,awd C fn (A.args x) (A.st x) (R.get C.P)=F x:=by intro x;kernel_rfl)
 (o:∀ x,(Nat.ble (A.args x).length C.n&&Nat.beq (A.st x).length C.np&&Nat.ble (A.st x).length R.bs.length)=true:=by intro x;kernel_rfl):KC P:=
 ⟨⟨f,A,R,F,dfL R.sh⟩,okE fn z I J O M Z h H o⟩
def u2 {A B R:Type} (f:A->B->R) (x:A×B):R:=f x.1 x.2
def u3 {A B C R:Type} (f:A->B->C->R) (x:A×B×C):R:=f x.1 x.2.1 x.2.2
def u4 {A B C D R:Type} (f:A->B->C->D->R) (x:A×B×C×D):R:=f x.1 x.2.1 x.2.2.1 x.2.2.2
def u5 {A B C D E R:Type} (f:A->B->C->D->E->R) (x:A×B×C×D×E):R:=f x.1 x.2.1 x.2.2.1 x.2.2.2.1 x.2.2.2.2
def u6 {A B C D E F R:Type} (f:A->B->C->D->E->F->R) (x:A×B×C×D×E×F):R:=f x.1 x.2.1 x.2.2.1 x.2.2.2.1 x.2.2.2.2.1 x.2.2.2.2.2
end Go.Ab
namespace Go.Ab
open Go
open Go.ChangeMaps (setBlock)
def afj:Code->Option (Nat×Operand)
 | .region _ ops h=>
  match h,ops.toList with
  | false,o::_=>(match o.op,o.dst,o.guard with | .next x false,some d,none=>some (d,x) | _,_,_=>none)
  | _,_=>none
 | .seq a _=>afj a
 | _=>none
def ao3 (ops:Array Oper):Array Oper:=match ops.toList with | o::r=>({ o with op:=.move (.tmp (o.dst.getD 0)) }::r).toArray | []=>ops
def aei:Code->Code
 | .region id ops h=>.region id (ao3 ops) h
 | .seq a b=>.seq (aei a) b
 | c=>c
theorem axi (ops:Array Oper) (j:Nat):((ao3 ops)[j]?).bind (·.dst)=(ops[j]?).bind (·.dst):=by
 unfold ao3;split
 ·rename_i o r h;have e:ops=(o::r).toArray:=by rw [<-h]
  grind
 ·rfl
theorem au0 {R:Type}{C:Cfg}{ops z:Array Oper} (h:∀ (j:Nat),(z[j]?).bind (λ(o:Oper)=>o.dst)=(ops[j]?).bind (λ(o:Oper)=>o.dst)):∀ (l:List Oper) (e:Env) (st:List BX) (K:Env->List BX->Option R) (X:SV->List BX->Option R),ajb C z l e st K X=ajb C ops l e st K X:=by
 intro l;induction l with
 | nil=>intro e st K X;rfl
 | cons o r I=>
  intro e st K X;simp only [ajb];have H:(λe st=>ajb C z r e st K X)=λe st=>ajb C ops r e st K X:=by grind
  rw [H];grind [a5s]
theorem Env.set_same {e:Env}{d:Nat}{v:SV} (h:e d=v):e.set d v=e:=by grind [Env.set,Nat.beq,Nat.eq_of_beq_eq_true]
theorem a9g {e:Env} (o:NoGd e) (d:Nat):opd e [] (.tmp d)=e d:=by
 simp only [opd,rd];split
 ·rename_i t w v h;exact absurd h (o d t w v)
 ·rfl
theorem a2s {Γ:Ctx}{R:Type}{C:Cfg} (hC:abt C) (hP:C.P=Γ.P) (hn:Γ.n=C.n) (aj:Γ.np=C.np) (r:R):∀ (c:Code) (d:Nat) (x:Operand),afj c=some (d,x)->(∀ aa,aa∈aaw c->LoopOk C aa)->∀ (K:Ks R) (e:Env) (st:List BX),exec C (aei c) K e st=some r->
 ∀ (Q:Exit->Act->World->Prop),(∀ I st' H w',K.norm I st'=some r->NoGd I->Rel Γ I st' H w'->Q .normal H w')->(∀ i I st' H w',K.exit i I st'=some r->NoGd I->Rel Γ I st' H w'->Q (.exit i) H w')->
  (∀ I st' H w',K.ret I st'=some r->NoGd I->Rel Γ I st' H w'->Q .ret H w')->(∀ s st' v H w',K.pan s st'=some r->PRel Γ s st' v H w'->Q (.panic [{ v,recovered:=false }]) H w')->
  ∀ (a:Act) (w:World) (u:Value) (w1:World),(∀ ty,(Instr.next (a.eval x) false ty).run Γ.P w=.ok u w1)->Rel Γ e st (a.put (some d) u) w1->NoGd e->c.wp Γ.P Q a w:=by
 intro c
 induction c with
 | region id ops ag=>
  intro d x Z _ K e st h Q h1 h2 h3 h4 a w u w1 ad O hg
  cases ag with
  | true=>simp [afj] at Z
  | false=>
   cases hl:ops.toList with
   | nil=>simp [afj,hl] at Z
   | cons o z=>
    simp only [afj,hl] at Z
    split at Z
    ·rename_i y d' ao ab M;cases Z;have es:ao3 ops=({ o with op:=.move (.tmp d) }::z).toArray:=by grind [ao3]
     unfold aei exec runR at h;simp only [Ah,es] at h;simp only [ajb,a5s,M,ac] at h;have hd:anx C.n o.dst=true:=by grind
     rw [hd] at h;simp only [Af,ab,put] at h;have ah:e.set d (opd e [] (.tmp d))=e:=Env.set_same (a9g hg d).symm;rw [ah] at h;have ai:∀ (j:Nat),((({ o with op:=.move (.tmp d) }::z:List Oper).toArray)[j]?).bind (λ(o:Oper)=>o.dst)=(ops[j]?).bind (λ(o:Oper)=>o.dst):=by grind [axi]
     simp only [ab,M] at ai;rw [au0 (ops:=ops) ai] at h;have ae:ops.toList.drop 1=z:=by rw [hl];rfl
     have am:=aml hC hP hn aj (ops:=ops) (Q:=Q) (λI st' H w' hk J=>h1 _ _ H w' hk (NoGd.sweep I) J.sweep) h4 z 1 ae e st h (a.put (some d) u) w1 O (hg.inv _);refine wp_region ?_;have af:ops.size=z.length+1:=by grind
     have ho:ops[0]?=some o:=by
      have:ops.toList[0]?=some o:=by rw [hl];rfl
      simpa using this
     have hr:List.range ops.size=0::List.range' 1 z.length:=by rw [af,List.range_eq_range',List.range'_succ]
     rw [hr,wpOps_cons];unfold wpOp;rw [ho];have hw:Region.wanted o (yielded ops a.tmps)=true:=by grind [Region.wanted]
     simp only [hw,A9];grind [Oper.wp,execOp,Sem.run_bind,Result.andThen_ok,Sem.run_pure,Oper.upon_value]
    ·cases Z
 | seq p q an _=>
  intro d x Z hL K e st h Q h1 h2 h3 h4 a w u w1 ad O hg
  simp only [aei] at h
  unfold exec at h
  have ak:∀ b,b∈aaw q->LoopOk C b:=λb hb=>hL b (by simp [aaw,hb])
  refine wp_seq (an d x Z (λb hb=>hL b (by simp [aaw,hb])) _ e st h (Exit.then (q.wp Γ.P Q) Q) (λI st' H w' hk al J=>?_) h2 h3 h4 a w u w1 ad O hg)
  exact aif hC hP hn aj r q ak K I st' hk Q h1 h2 h3 h4 H w' J al
 | _=>intro d x Z;simp [afj] at Z
section
variable {Γ:Ctx}{D:Dom}{ow:Own}{μ:Nat->Nat}{st:List BX}{w:World}
theorem WRel.setMit (h:WRel Γ D ow μ st w) {k:Nat}{K E:TypeId}{c I:Option (PV×PV)}{es es':List (PV×PV)} (hk:st[k]?=some (.mit K E c es)) {w':World}
 (hh:ax3 Γ.P D w' ow μ k K E I es') (O:∀ b,b≠μ k->w'.heap[b]?=w.heap[b]?) (ab:w'.heap.size=w.heap.size) (ag:w'.os=w.os) (ai:w'.tape=w.tape) (ah:w'.output=w.output):
 WRel Γ D ow μ (st.set k (.mit K E I es')) w'/\Moves D w ow μ st D w' ow μ (st.set k (.mit K E I es')):=by
 have aj:=(A5.1 hk).1
 obtain ⟨b4,b3,_⟩:=h.obj k _ hk
 have ne:∀ {j:Nat}{y:BX},st[j]?=some y->j≠k->(st.set k (.mit K E I es'))[j]?=some y:=λe z=>by grind
 have H:(st.set k (.mit K E I es'))[k]?=some (.mit K E I es'):=by grind
 have ae:Keeps D w w':=Keeps.of_heap λb o d=>O b (λe=>by grind)
 have m:Moves D w ow μ st D w' ow μ (st.set k (.mit K E I es')):=by
  refine ⟨λ_ _ d=>d,ae,λj T x e=>⟨rfl,x,?_⟩,λj K E es e=>⟨rfl,es,?_⟩,λj b e hs=>⟨rfl,?_⟩,λj E g xs e=>?_,λj g e=>?_⟩
  ·grind
  ·grind
  ·by_cases z:j=k
   ·subst z;rw [hk] at e;cases e;exact ⟨_,H,rfl⟩
   grind
  ·by_cases z:j=k
   ·grind
   ·refine ⟨g,xs,ne e z,Nat.le_refl _,λ_=>⟨rfl,λcur hc af=>⟨rfl,af,cur,(O _ (λaa=>?_)).trans hc,rfl⟩⟩⟩;grind
  grind
 have J:∀ j,j<Γ.np->∃ b,(st.set k (.mit K E I es'))[j]?=some b/\b.kind=Γ.K0 j:=by
  intro j z;obtain ⟨x,hx,p1⟩:=h.par j z;by_cases ad:j=k
  ·subst ad;rw [hk] at hx;cases hx;exact ⟨_,H,p1⟩
  grind
 refine ⟨⟨λj T x e=>?_,λj K E es e=>?_,λj x e=>?_,λb j o=>?_,λb o d=>by rw [ab];exact h.dlt b o d,ag.trans h.os,ai.trans h.tape,ah.trans h.output,by rw [ab];exact h.hs,λb hb hn=>?_,h.dom0,h.domN,h.owN,by grind,h.mu0,J,λb j y ob e hy o d=>?_,h.keep0.trans m.keeps h.dom0,h.arr0_moves m J⟩,m⟩
 ·by_cases z:j=k
  ·grind
  ·rw [Ao (by omega)] at e;obtain ⟨c,T1,q1,q2,q3,q4,q5⟩:=h.box j T x e;have M:μ j≠μ k:=λaa=>by grind
   exact BoxRep.mono ⟨c,T1,q1,q2,q3,q4,q5⟩ m rfl (O _ M) q3 q4
 ·by_cases z:j=k
  ·grind
  ·rw [Ao (by omega)] at e;obtain ⟨ents,clock,kc,vc,q1,q2,q3⟩:=h.map j K E es e;have M:μ j≠μ k:=λaa=>by grind
   exact OMapRep.mono ⟨ents,clock,kc,vc,q1,q2,q3⟩ m.dom m.keeps rfl (O _ M) q2 q3.1
 ·by_cases z:j=k
  ·subst z;rw [H] at e;cases e;exact hh
  ·rw [Ao (by omega)] at e;refine (h.obj j x e).mono m.dom m.keeps (λ_=>rfl) (λc oc=>⟨O c (λhb=>?_),oc,λ_ d=>d⟩);grind
 ·have:=h.owlt b j o;grind
 ·by_cases Z:b=μ k
  ·subst Z;have:=h.owN _ _ b3 hb;grind
  ·exact (O b Z).trans (h.old b hb hn)
 ·by_cases z:j=k
  ·subst z;exact h.lone b j _ ob hk (by simp) o d
  ·rw [Ao (by omega)] at e;exact h.lone b j y ob e hy o d
theorem atv {o:Type} (f:o->Nat):∀ (l:List o) (i:Nat) (x:o),l[i]?=some x->(∀ (a b:Nat) (y z:o),l[a]?=some y->l[b]?=some z->f y=f z->a=b)->l.filter (λy=>!(f y==f x))=l.eraseIdx i:=by
 intro l;induction l with
 | nil=>grind
 | cons y r ih=>
  intro i x h H;have M:∀ (a b:Nat) (y z:o),r[a]?=some y->r[b]?=some z->f y=f z->a=b:=λa b y z I J e=>by have:=H (a+1) (b+1) y z (by simpa using I) (by simpa using J) e;omega
  cases i with
  | zero=>simp at h;subst h;simp only [List.eraseIdx_zero,List.tail_cons];rw [List.filter_cons_of_neg (by simp)];rw [List.filter_eq_self];intro z hz;obtain ⟨j,O⟩:=List.mem_iff_getElem?.1 hz;simp only [Bool.not_eq_true',beq_eq_false_iff_ne,ne_eq];intro e;have:=H (j+1) 0 z y (by simpa using O) (by simp) e;omega
  | succ i=>
   have Z:f y≠f x:=λe=>by have:=H 0 (i+1) y x (by simp) h e;omega
   grind
theorem a4k {ents:Array MapEntry}{h:Array Nat}{clock i:Nat}{e:MapEntry} (H:BornOk ents clock) (M:(leftOf ents h)[i]?=some e):(leftOf ents (h.push e.born)).toList=(leftOf ents h).toList.eraseIdx i:=by
 have J:∀ (a b:Nat) (y z:MapEntry),(leftOf ents h).toList[a]?=some y->(leftOf ents h).toList[b]?=some z->y.born=z.born->a=b:=by
  have Z:ents.toList.Pairwise (λy z=>y.born≠z.born):=by rw [List.pairwise_iff_getElem];intro a b O I o e;have:=H.2 a b ents.toList[a] ents.toList[b] (by simp) (by simp) e;omega
  have hq:(leftOf ents h).toList.Pairwise (λy z=>y.born≠z.born):=by grind [leftOf,Array.toList_filter]
  grind [List.pairwise_iff_getElem,List.getElem?_eq_some_iff,Nat.lt_trichotomy,absurd]
 rw [<-atv (λe=>e.born) _ i e (by simpa using M) J];unfold leftOf;rw [Array.toList_filter,Array.toList_filter,List.filter_filter];grind
def ak0 (P:Program) (K E:TypeId) (x:Option (PV×PV)):SV:=match x with | some x=>.tup [.bool true,ofPV P K x.1,ofPV P E x.2] | none=>.tup [.bool false]
theorem ayz (hw:WRel Γ D ow μ st w) {k:Nat}{K E:TypeId}{c:Option (PV×PV)}{es:List (PV×PV)} (hk:st[k]?=some (.mit K E c es)):
 ∃ (u:Value) (Z:World),(∀ ty,(Instr.next (.pointer (some ⟨μ k,0,none⟩)) false ty).run Γ.P w=.ok u Z)/\
  ((
   es=[]/\Z=w/\SRep Γ.P D w ow μ st (ak0 Γ.P K E none) u)\/
   ∃ (i:Nat) (x:PV×PV),es[i]?=some x/\WRel Γ D ow μ (st.set k (.mit K E (some x) (es.eraseIdx i))) Z/\Moves D w ow μ st D Z ow μ (st.set k (.mit K E (some x) (es.eraseIdx i)))/\SRep Γ.P D Z ow μ (st.set k (.mit K E (some x) (es.eraseIdx i))) (ak0 Γ.P K E (some x)) u):=by
 obtain ⟨b4,b3,m,z,c0,H,hh,hm,_⟩:=hw.obj k _ hk
 have ad:SRep Γ.P D w ow μ st (ak0 Γ.P K E none) (.tuple #[.bool false]):=.tup rfl (λi s v O hv=>by
  match i,O,hv with
  | 0,O,hv=>simp at O hv;subst O;subst hv;exact .bool)
 rcases hm with ⟨rfl,rfl⟩ | ⟨r,clock,ents,kc,vc,rfl,hd,hr,rfl,hc,hb,O,r1,r2,r3⟩
 ·exact ⟨.tuple #[.bool false],w,λty=>by simp [Instr.next,getObj,Sem.run,hh],Or.inl ⟨rfl,rfl,ad⟩⟩
 ·have al:∀ x∈ents.toList,x.born<z:=by
   intro x hx;obtain ⟨i,hi⟩:=List.mem_iff_getElem?.1 hx;exact hb.1 i x (by simpa using hi)
  have an:=λty=>run_next_at (P:=Γ.P) w ty (μ k) r z c0 H ents z hh hr al hc;by_cases h0:(leftOf ents H).size=0
  ·have he:es=[]:=List.length_eq_zero_iff.1 (by omega);subst he;refine ⟨.tuple #[.bool false],w,λty=>?_,Or.inl ⟨rfl,rfl,ad⟩⟩;grind
  ·rcases an 0 with ⟨h,_⟩ | ⟨e,ai,Z,ao,hq⟩
   ·grind
   ·obtain ⟨i,hi⟩:=List.mem_iff_getElem?.1 ai;have af:(leftOf ents H)[i]?=some e:=by simpa using hi
    have ag:i<es.length:=by grind
    have hx:es[i]?=some es[i]:=Am ag;refine ⟨.tuple #[.bool true,e.key,e.val],setBlock Z (μ k) (.mapIter (some r) z (H.push e.born) z),λty=>?_,Or.inr ⟨i,es[i],hx,?_⟩⟩
    ·exact (show (Instr.next (.pointer (some ⟨μ k,0,none⟩)) false ty).run Γ.P w=(Instr.next (.pointer (some ⟨μ k,0,none⟩)) false 0).run Γ.P w from rfl).trans hq
    ·have aw:μ k<w.heap.size:=(hw.owlt _ _ b3).1;have ab:Z.heap=w.heap/\Z.os=w.os/\Z.tape=w.tape/\Z.output=w.output:=by rcases ao with rfl | rfl<;>exact ⟨rfl,rfl,rfl,rfl⟩
     have am:r≠μ k:=λe=>b4 0 (by grind);have ak:(setBlock Z (μ k) (.mapIter (some r) z (H.push e.born) z)).heap[μ k]?=some (.mapIter (some r) z (H.push e.born) z):=by grind [setBlock]
     have I:∀ b,b≠μ k->(setBlock Z (μ k) (.mapIter (some r) z (H.push e.born) z)).heap[b]?=w.heap[b]?:=λb hb=>by show (Z.heap.setIfInBounds (μ k) _)[b]?=_;grind
     have M:Keeps D w (setBlock Z (μ k) (.mapIter (some r) z (H.push e.born) z)):=Keeps.of_heap λb o d=>I b (λe=>by grind);have ah:=a4k hb af;have av:∀ (j:Nat),(leftOf ents (H.push e.born))[j]?=if j<i then (leftOf ents H)[j]? else (leftOf ents H)[j+1]?:=by intro j;rw [<-Array.getElem?_toList,ah,List.getElem?_eraseIdx];simp
     have aa:∀ (j:Nat),(es.eraseIdx i)[j]?=if j<i then es[j]? else es[j+1]?:=λj=>List.getElem?_eraseIdx
     have aj:ax3 Γ.P D (setBlock Z (μ k) (.mapIter (some r) z (H.push e.born) z)) ow μ k K E (some es[i]) (es.eraseIdx i):=by
      refine ⟨b4,b3,some r,z,z,H.push e.born,ak,Or.inr ⟨r,z,ents,λj=>if j<i then kc j else kc (j+1),λj=>if j<i then vc j else vc (j+1),rfl,hd,(I r am).trans hr,rfl,Nat.le_refl _,hb,?_,λj x hj=>?_,λj x hj=>?_,λj f hj=>?_⟩,λe0 ap=>?_⟩
      ·rw [<-Array.length_toList,ah,List.length_eraseIdx,List.length_eraseIdx,if_pos ag,if_pos (by simp;omega)];simp;omega
      ·rw [aa] at hj;by_cases J:j<i
       ·rw [if_pos J] at hj;simp only [J,A9];exact (r1 j x hj).mono (λ_ _ d=>d) M
       ·rw [if_neg J] at hj;simp only [J,Bb];exact (r1 _ x hj).mono (λ_ _ d=>d) M
      ·rw [aa] at hj;by_cases J:j<i
       ·rw [if_pos J] at hj;simp only [J,A9];exact (r2 j x hj).mono (λ_ _ d=>d) M
       ·rw [if_neg J] at hj;simp only [J,Bb];exact (r2 _ x hj).mono (λ_ _ d=>d) M
      ·grind
      ·cases ap;obtain ⟨ek,ev⟩:=r3 i e af;have au:e∈ents.toList:=by
        grind [List.mem_of_getElem?,leftOf,Array.toList_filter]
       refine ⟨r,ents,e,kc i,vc i,rfl,hd,(I r am).trans hr,by simp,?_,(r1 i _ hx).mono (λ_ _ d=>d) M,(r2 i _ hx).mono (λ_ _ d=>d) M,ek,ev⟩;obtain ⟨a,ha⟩:=List.mem_iff_getElem?.1 au;cases hf:ents.find? (λx=>x.born==e.born) with
       | none=>grind
       | some f=>have ar:=Array.mem_of_find?_eq_some hf;have aq:=Array.find?_some hf;obtain ⟨b,ae⟩:=Array.mem_iff_getElem?.1 ar;have:a=b:=hb.2 a b e f (by simpa using ha) ae (by simpa using (beq_iff_eq.1 aq).symm);subst this;rw [show ents[a]?=some e by simpa using ha] at ae;rw [ae]
     obtain ⟨u1,u2⟩:=hw.setMit hk aj I (by simp [setBlock,ab.1]) ab.2.1 ab.2.2.1 ab.2.2.2;refine ⟨u1,u2,?_⟩;obtain ⟨ek,ev⟩:=r3 i e af;refine .tup rfl (λj s v O hv=>?_);match j,O,hv with
     | 0,O,hv=>simp at O hv;subst O;subst hv;exact .bool
     | 1,O,hv=>simp at O hv;subst O;subst hv;rw [ek];exact ((r1 i _ hx).mono (λ_ _ d=>d) M).ofPV
     | 2,O,hv=>simp at O hv;subst O;subst hv;rw [ev];exact ((r2 i _ hx).mono (λ_ _ d=>d) M).ofPV
end
def mend {o H:Type} (h:o->List (PV×PV)) (z:PV×PV->List (PV×PV)->o->Option (o⊕H)) (fin:o->Option (o⊕H)):Nat->o->(H->Prop)->Prop
 | 0,x,S=>h x=[]/\∃ y,fin x=some (.inr y)/\S y
 | n+1,x,S=>(h x).length=n+1/\∀ (i:Nat) (e:PV×PV),(h x)[i]?=some e->(∃ I,z e ((h x).eraseIdx i) x=some (.inl I)/\mend h z fin n I S)\/∃ y,z e ((h x).eraseIdx i) x=some (.inr y)/\S y
def endA {h z R:Type} (o:h->List (PV×PV)) (fin:h->Option (h⊕z)) (x:h) (K:z->Option R):Option R:=match o x,fin x with | [],some (.inr y)=>K y | _,_=>none
def bbf {o z R:Type} (h:o->List (PV×PV)) (H:PV×PV->List (PV×PV)->o->Option (o⊕z)) (fin:o->Option (o⊕z)) (x:o) (K:z->Option R):Option R:=
 match h x with
 | []=>endA h fin x K
 | [e]=>(match H e [] x with | some (.inl x')=>endA h fin x' K | some (.inr y)=>K y | none=>none)
 | _=>none
open Classical in
noncomputable def apq {z I R:Type} (H:Nat) (o:z->List (PV×PV)) (J:PV×PV->List (PV×PV)->z->Option (z⊕I)) (fin:z->Option (z⊕I)) (x:z) (K:I->Option R):Option R:=
 match H with
 | 0=>if h:∃ r,mend o J fin (o x).length x (λy=>K y=some r) then some h.choose else none
 | _+1=>bbf o J fin x K
theorem atq {o H R:Type}{z:o->List (PV×PV)}{I:PV×PV->List (PV×PV)->o->Option (o⊕H)}{fin:o->Option (o⊕H)}{x:o}{K:H->Option R}{r:R} (h:endA z fin x K=some r):mend z I fin 0 x (λy=>K y=some r):=by
 unfold endA at h;split at h
 ·rename_i y J M;exact ⟨J,y,M,h⟩
 ·cases h
theorem a0k {H τ R:Type}{I:Nat}{o:H->List (PV×PV)}{O:PV×PV->List (PV×PV)->H->Option (H⊕τ)}{fin:H->Option (H⊕τ)}{x:H}{K:τ->Option R}{r:R} (h:apq I o O fin x K=some r):mend o O fin (o x).length x (λy=>K y=some r):=by
 unfold apq at h;split at h
 ·split at h
  ·rename_i hh;cases h;exact hh.choose_spec
  ·cases h
 ·unfold bbf at h;split at h
  ·rename_i M;rw [M];exact atq h
  ·rename_i e M;rw [M];refine ⟨by rw [M];rfl,λi e' J=>?_⟩;rw [M] at J ⊢;match i,J with
   | 0,J=>
    simp at J;subst J;show (∃ x',O e [] x=_/\_)\/∃ y,O e [] x=_/\_;split at h
    ·rename_i x' Z;exact Or.inl ⟨x',Z,atq h⟩
    ·rename_i z hz;exact Or.inr ⟨z,hz,h⟩
    ·cases h
  ·cases h
theorem a4w {o Z:Type}{h:o->List (PV×PV)}{go:PV×PV->List (PV×PV)->o->Option (o⊕Z)}{fin:o->Option (o⊕Z)}{S T:Z->Prop}:∀ (n:Nat) (x:o),mend h go fin n x S->mend h go fin n x T->∃ y,S y/\T y:=by
 intro n;induction n with
 | zero=>rintro x ⟨_,y,M,O⟩ ⟨_,z,h3,h4⟩;rw [M] at h3;cases h3;exact ⟨y,O,h4⟩
 | succ n ih=>
  rintro x ⟨h0,M⟩ ⟨_,O⟩;have hi:(h x)[0]?=some ((h x)[0]'(by omega)):=Am _;rcases M 0 _ hi with ⟨x1,a1,H⟩ | ⟨y,a1,H⟩<;>rcases O 0 _ hi with ⟨x2,I,J⟩ | ⟨z,I,J⟩<;>rw [a1] at I<;>cases I
  ·exact ih x1 H J
  ·exact ⟨y,H,J⟩
theorem a9c {z I R:Type}{o:z->List (PV×PV)}{H:PV×PV->List (PV×PV)->z->Option (z⊕I)}{fin:z->Option (z⊕I)}{x:z}{K:I->Option R} (r:R) (h:mend o H fin (o x).length x (λy=>K y=some r)):apq 0 o H fin x K=some r:=by have M:∃ r,mend o H fin (o x).length x (λy=>K y=some r):=⟨r,h⟩;unfold apq;simp only [M,dif_pos];obtain ⟨y,O,J⟩:=a4w _ _ M.choose_spec h;rw [O] at J;exact J
structure LoopM where
 key:Nat
 H:Frame
 X:List (LEx×Frame)
 rem:H.ty->List (PV×PV)
 go:PV×PV->List (PV×PV)->H.ty->Option (H.ty⊕XTy X)
 fin:H.ty->Option (H.ty⊕XTy X)
def apv (P:Program) (H:Frame) (X:List (LEx×Frame)):Ks (H.ty⊕XTy X):=
 { norm:=λe st=>axj (H.dec P e st),exit:=λi e st=>ajs (decX P X (.exit i) e st),ret:=λe st=>ajs (decX P X .ret e st),pan:=λs st=>ajs (decX P X .pan (λt=>bif Nat.beq t 0 then s else .undef) st) }
theorem awt {C:Cfg} (hC:abt C) {o:Code}{d t k:Nat}{K E:TypeId} (hh:afj o=some (d,.tmp t)) (hd:Nat.blt d C.n=true) (l:LoopM) (hL:∀ b,b∈aaw o->LoopOk C b) (ax:Nat.ble C.np l.H.bs.length=true) (hX:npX C.np l.X=true)
 (ap:∀ x,l.H.env x t=.mitr k) (af:∀ x,(l.H.st x)[k]?=some (.mit K E none (l.rem x)))
 (ar:∀ e es x,exec C (aei o) (apv C.P l.H l.X) ((l.H.env x).set d (ak0 C.P K E (some e))) ((l.H.st x).set k (.mit K E (some e) es))=l.go e es x)
 (al:∀ x,exec C (aei o) (apv C.P l.H l.X) ((l.H.env x).set d (ak0 C.P K E none)) ((l.H.st x).set k (.mit K E none []))=l.fin x):
 ∀ (n:Nat) (x:l.H.ty) (S:XTy l.X->Prop),mend l.rem l.go l.fin n x S->∀ (Γ:Ctx),Γ.P=C.P->Γ.n=C.n->Γ.np=C.np->∀ (Q:Exit->Act->World->Prop) (a:Act) (w:World),Rel Γ (l.H.env x) (l.H.st x) a w->NoGd (l.H.env x)->
  (∀ y,S y->as0 Γ (exX l.X y) (envX l.X y) (stX l.X y) Q)->Code.rounds C.P o Q (n+1) a w:=by
 have aj:∀ (n:Nat) (S:XTy l.X->Prop) (r:l.H.ty⊕XTy l.X) (e1:Env) (ai:List BX),exec C (aei o) (apv C.P l.H l.X) e1 ai=some r->
  ∀ (Γ:Ctx),Γ.P=C.P->Γ.n=C.n->Γ.np=C.np->∀ (Q:Exit->Act->World->Prop) (a:Act) (w:World) (u:Value) (w1:World),
  (∀ x',r=.inl x'->∀ (a2:Act) (w2:World),Rel Γ (l.H.env x') (l.H.st x') a2 w2->Code.rounds C.P o Q n a2 w2)->(∀ z,r=.inr z->S z)->
  (∀ ty,(Instr.next (a.eval (.tmp t)) false ty).run Γ.P w=.ok u w1)->Rel Γ e1 ai (a.put (some d) u) w1->NoGd e1->(∀ y,S y->as0 Γ (exX l.X y) (envX l.X y) (stX l.X y) Q)->
  o.wp Γ.P (Exit.then (Code.rounds C.P o Q n) Q) a w:=by
  intro n S r e1 ai hr Γ hP hn I Q a w u w1 ao ag M ab hg hQ
  refine a2s hC hP.symm hn I r o d (.tmp t) hh hL (apv C.P l.H l.X) e1 ai hr (Exit.then (Code.rounds C.P o Q n) Q) (λe2 ak a2 w2 O an ae=>?_) (λi e2 ak a2 w2 O an ae=>?_) (λe2 ak a2 w2 O an ae=>?_) (λs2 ak v2 a2 w2 O hp=>?_) a w u w1 M ab hg
  ·simp only [apv,axj] at O;split at O
   ·rename_i x1 h1;cases O;exact ao x1 rfl a2 w2 (Frame.dec_sound hP (by rw [I];exact Aq ax) h1 ae)
   ·cases O
  ·simp only [apv,ajs] at O;split at O
   ·rename_i z aa;cases O;have hq:=hQ z (ag z rfl);have he:=ak9 l.X z aa;have ah:=(aie (a:=a2) (w:=w2) hP l.X z (by rw [I];exact hX) aa).2;rw [he] at hq;exact hq a2 w2 (ah ae)
   ·cases O
  ·simp only [apv,ajs] at O;split at O
   ·rename_i z aa;cases O;have hq:=hQ z (ag z rfl);have he:=ak9 l.X z aa;have ah:=(aie (a:=a2) (w:=w2) hP l.X z (by rw [I];exact hX) aa).2;rw [he] at hq;exact hq a2 w2 (ah ae)
   ·cases O
  ·simp only [apv,ajs] at O;split at O
   ·rename_i z aa;cases O;have hq:=hQ z (ag z rfl);have he:=ak9 l.X z aa;have ah:=(ayg (a:=a2) (w:=w2) (v0:=v2) hP l.X z (by rw [I];exact hX) aa).2 hp;rw [he] at hq;exact hq v2 a2 w2 ah
   ·cases O
 intro n
 induction n with
 | zero=>
  intro x S hm Γ hP hn I Q a w ab hg hQ
  rw [rounds_succ]
  obtain ⟨D,ow,μ,hw,hs⟩:=ab
  have J:=hs.slot t
  rw [ap] at J
  have hv:a.eval (.tmp t)=.pointer (some ⟨μ k,0,none⟩):=by show a.tmps.getD t Go.undef=_;generalize a.tmps.getD t Go.undef=v at J;cases J;rfl
  obtain ⟨u,w1,M,ad⟩:=ayz hw (af x)
  obtain ⟨h0,y,h1,h2⟩:=hm
  rw [<-hP]
  rcases ad with ⟨_,rfl,hu⟩ | ⟨i,e,hi,_⟩
  ·have ay:(l.H.st x).set k (.mit K E none [])=l.H.st x:=by
    apply List.ext_getElem?;intro j;rw [List.getElem?_set];split
    ·rename_i hj;subst hj;split
     ·rw [af x,h0]
     ·rename_i au;exact absurd (A5.1 (af x)).1 au
    ·rfl
   have hf:=al x;rw [ay,h1] at hf;have Z:Rel Γ ((l.H.env x).set d (ak0 C.P K E none)) (l.H.st x) (a.put (some d) u) w1:=
    ⟨D,ow,μ,hw,hs.put (some d) _ _ (λz hz=>by cases hz;exact ⟨by rw [hn];exact (by unfold Nat.blt at hd;exact Aq hd),λt u w' q he=>absurd he (hg t u w' q)⟩) (by rw [<-hP];exact hu) (λt aq q he=>by simp [ak0] at he)⟩
   rw [hP];have:=aj 0 S (.inr y) _ _ hf Γ hP hn I Q a w1 u w1 (λx' h=>by cases h) (λz h=>by cases h;exact h2) (by rw [hv];exact M) Z (hg.set d (by simp [ak0])) hQ;rw [hP] at this;exact this
  ·rw [h0] at hi;simp at hi
 | succ n ih=>
  intro x S hm Γ hP hn I Q a w ab hg hQ
  rw [rounds_succ]
  obtain ⟨D,ow,μ,hw,hs⟩:=ab
  have J:=hs.slot t
  rw [ap] at J
  have hv:a.eval (.tmp t)=.pointer (some ⟨μ k,0,none⟩):=by show a.tmps.getD t Go.undef=_;generalize a.tmps.getD t Go.undef=v at J;cases J;rfl
  obtain ⟨u,w1,M,ad⟩:=ayz hw (af x)
  obtain ⟨h0,h1⟩:=hm
  rcases ad with ⟨he,_⟩ | ⟨i,e,hi,az,aw,hu⟩
  ·rw [he] at h0;simp at h0
  ·have Z:Rel Γ ((l.H.env x).set d (ak0 C.P K E (some e))) ((l.H.st x).set k (.mit K E (some e) ((l.rem x).eraseIdx i))) (a.put (some d) u) w1:=
    ⟨D,ow,μ,az,(hs.mono aw).put (some d) _ _ (λz hz=>by cases hz;exact ⟨by rw [hn];exact (by unfold Nat.blt at hd;exact Aq hd),λt u w' q he=>absurd he (hg t u w' q)⟩) (by rw [<-hP];exact hu) (λt aq q he=>by simp [ak0] at he)⟩
   have am:NoGd ((l.H.env x).set d (ak0 C.P K E (some e))):=hg.set d (by simp [ak0]);have hf:=ar e ((l.rem x).eraseIdx i) x;rcases h1 i e hi with ⟨x',aA,av⟩ | ⟨y,hy,aB⟩
   ·rw [aA] at hf;have:=aj (n+1) S (.inl x') _ _ hf Γ hP hn I Q a w u w1 (λx2 h a2 w2 ae=>by cases h;exact ih x' S av Γ hP hn I Q a2 w2 ae (l.H.noGd x') hQ) (λz h=>by cases h) (by rw [hv];exact M) Z am hQ;rw [hP] at this;exact this
   ·rw [hy] at hf;have:=aj (n+1) S (.inr y) _ _ hf Γ hP hn I Q a w u w1 (λx2 h=>by cases h) (λz h=>by cases h;exact aB) (by rw [hv];exact M) Z am hQ;rw [hP] at this;exact this
theorem okM {C:Cfg} (hC:abt C) {o:Code} (J d t k:Nat) (K E:TypeId) (l:LoopM) (hL:∀ b,b∈aaw o->LoopOk C b) (z:(Nat.ble C.np l.H.bs.length&&npX C.np l.X&&Nat.blt d C.n)=true:=by kernel_rfl) (hh:afj o=some (d,.tmp t):=by kernel_rfl)
 (ab:∀ x,l.H.env x t=.mitr k:=by intro x;kernel_rfl) (Z:∀ x,(l.H.st x)[k]?=some (.mit K E none (l.rem x)):=by intro x;kernel_rfl)
 (aa:∀ e es x,exec C (aei o) (apv C.P l.H l.X) ((l.H.env x).set d (ak0 C.P K E (some e))) ((l.H.st x).set k (.mit K E (some e) es))=l.go e es x:=by intro e es x;kernel_rfl)
 (M:∀ x,exec C (aei o) (apv C.P l.H l.X) ((l.H.env x).set d (ak0 C.P K E none)) ((l.H.st x).set k (.mit K E none []))=l.fin x:=by intro x;kernel_rfl)
 (O:∀ (R:Type) (e:Env) (st:List BX) (K:LEx->Env->List BX->Option R),C.lam R (ahw o) e st K=(l.H.dec C.P e st).bind λx=>apq J l.rem l.go l.fin x λy=>kX l.X y K:=by intro R e st K;kernel_rfl):LoopOk C o:=by
 simp only [Aj] at z
 intro R e st K' r h
 rw [O] at h
 simp only [Bd] at h
 obtain ⟨x,h1,h2⟩:=h
 have hm:=a0k h2
 refine ⟨(l.rem x).length+1,λ Γ hP hn I Q a w hr hg hQ=>?_⟩
 exact awt hC hh z.2 l hL z.1.1 z.1.2 ab Z aa M _ x _ hm Γ hP hn I Q a w (Frame.dec_sound hP (by rw [I];exact Aq z.1.1) h1 hr) (l.H.noGd x) λy hy=>by simp only [bd1] at hy;exact hQ _ _ _ hy (atr _ _)
noncomputable def lamM (P:Program) (h:Nat) (f:(R:Type)->Nat->Env->List BX->(LEx->Env->List BX->Option R)->Option R):List LoopM->(R:Type)->Nat->Env->List BX->(LEx->Env->List BX->Option R)->Option R
 | [],R,key,e,st,K=>f R key e st K
 | l::r,R,key,e,st,K=>bif Nat.beq l.key key then (l.H.dec P e st).bind λx=>apq h l.rem l.go l.fin x λy=>kX l.X y K else lamM P h f r R key e st K
noncomputable def mcfg (C:Cfg) (h:Nat) (o:List LoopM):Cfg:={ C with lam:=lamM C.P h C.lam o }
theorem aww {C:Cfg}{o:Nat}{z:List LoopM} (h:abt C):abt (mcfg C o z):=h
def a6s (C:Cfg) (H:Frame) (h:Code) (R:Type):Nat->H.ty->(LEx->Env->List BX->Option R)->Option R
 | 0,_,_=>none
 | n+1,x,K=>exec C h { norm:=λe st=>(H.dec C.P e st).bind λo=>a6s C H h R n o K,exit:=λi e st=>K (.exit i) e st,ret:=λe st=>K .ret e st,pan:=λs st=>K .pan (λt=>bif Nat.beq t 0 then s else .undef) st } (H.env x) (H.st x)
noncomputable def ucfg (C:Cfg) (o:Nat) (H:Frame) (h:Code) (n:Nat):Cfg:={ C with lam:=λR key e st K=>bif Nat.beq key o then (H.dec C.P e st).bind λx=>a6s C H h R n x K else C.lam R key e st K }
theorem axx {C:Cfg}{z n:Nat}{H:Frame}{o:Code} (h:abt C):abt (ucfg C z H o n):=h
theorem axy {C:Cfg} (hC:abt C) {H:Frame}{o:Code} (hL:∀ b,b∈aaw o->LoopOk C b) (ad:Nat.ble C.np H.bs.length=true) {R:Type}{K:LEx->Env->List BX->Option R}{r:R}:∀ (n:Nat) (x:H.ty),a6s C H o R n x K=some r->
 ∀ (Γ:Ctx),Γ.P=C.P->Γ.n=C.n->Γ.np=C.np->∀ (Q:Exit->Act->World->Prop) (a:Act) (w:World),Rel Γ (H.env x) (H.st x) a w->
  (∀ x e' st',K x e' st'=some r->NoGd e'->as0 Γ x e' st' Q)->Code.rounds C.P o Q n a w:=by
 intro n
 induction n with
 | zero=>intro x h;cases h
 | succ n ih=>
  intro x h Γ hP hn J Q a w ab hQ
  unfold a6s at h
  rw [rounds_succ]
  have:=aif (Γ:=Γ) hC hP.symm hn J r o hL _ _ _ h (Exit.then (Code.rounds C.P o Q n) Q) (λe1 I Z w1 z O M=>?_) (λi e1 I Z w1 z O M=>?_) (λe1 I Z w1 z O M=>?_) (λs I v Z w1 z hp=>?_) a w ab (H.noGd x)
  ·rw [hP] at this;exact this
  ·simp only [Bd] at z;obtain ⟨x',h1,h2⟩:=z;exact ih x' h2 Γ hP hn J Q Z w1 (Frame.dec_sound hP (by rw [J];exact Aq ad) h1 M) hQ
  ·exact hQ (.exit i) e1 I z O Z w1 M
  ·exact hQ .ret e1 I z O Z w1 M
  ·refine hQ .pan _ I z ?_ v Z w1 hp;intro t u af x hx;cases aa:Nat.beq t 0 with
   | true=>simp only [aa,Af] at hx;subst hx;obtain ⟨_,D,ow,μ,_,ae⟩:=hp;cases ae
   | false=>simp only [aa,Ah] at hx;cases hx
theorem okU {C:Cfg} (hC:abt C) {o:Code}{H:Frame}{J n:Nat} (hL:∀ b,b∈aaw o->LoopOk C b) (hk:Nat.beq (ahw o) J=true:=by kernel_rfl) (I:Nat.ble C.np H.bs.length=true:=by kernel_rfl):LoopOk (ucfg C J H o n) o:=by intro R e st K r h;have h:(bif Nat.beq (ahw o) J then (H.dec C.P e st).bind λx=>a6s C H o R n x K else C.lam R (ahw o) e st K)=some r:=h;rw [hk,Af] at h;simp only [Bd] at h;obtain ⟨x,O,Z⟩:=h;exact ⟨n,λ Γ M hn z Q a w hr hg hQ=>axy hC hL I n x Z Γ M hn z Q a w (Frame.dec_sound M (by rw [z];exact Aq I) O hr) hQ⟩
end Go.Ab
