/- Loops by steps, calls by entries. -/
import Derived.Test.YtjogoleiodbfdaaGreatDoorAbFrame
import Derived.KernelRfl
set_option linter.unusedVariables false
set_option linter.unusedSimpArgs false
set_option linter.unnecessarySimpa false
namespace Go.Ab
open Go
section
variable {Γ:Ctx}{D:Dom}{ow:Own}{μ:Nat->Nat}{st st':List BX}{bs:List BSh}{w:World}{P:Program}
theorem ajj {s:SV}{v:Value} (f:StFit P st bs bs st st') (h:SRep P D w ow μ st s v) (o:akl bs s=true):SRep P D w (owTo ow bs.length) μ st' s v:=by
 unfold akl at o;split at o
 ·rename_i k p T;unfold a9x at o;split at o
  ·rename_i T' p' H;obtain ⟨s,vs,O,aa,Z,J,M,h3⟩:=f.box _ _ _ H;cases h with
   | ref I h5=>rw [J] at I;cases I;exact .ref h3 h5
  ·cases o
 ·rename_i k;unfold bav at o;split at o
  ·rename_i K E H;obtain ⟨es,J,M⟩:=f.map _ _ _ H;cases h with
   | mref I=>rw [J] at I;cases I;exact .mref M
  ·cases o
 ·rename_i k;unfold bay at o;split at o
  ·rename_i K E H;obtain ⟨es,J,M⟩:=f.mit _ _ _ H;cases h with
   | mitr I=>exact .mitr J
  ·cases o
 ·rename_i k;unfold a6u at o;split at o
  ·rename_i H;obtain ⟨s0,p0,J,M⟩:=f.iter _ H;cases h with
   | iref I=>exact .iref M
  ·cases o
 ·rename_i k T;unfold a9w at o;split at o
  ·rename_i T' H;obtain ⟨s0,J,M⟩:=f.bld _ _ H;cases h with
   | bref I=>exact .bref M
  ·cases o
 ·cases h;exact .nils
 ·cases o
theorem ac7 {sh:Shape}{s s':SV}{v:Value} (f:StFit P st bs bs st st') (h:SRep P D w ow μ st s v) (o:ajn P st bs sh s=some s'):SRep P D w (owTo ow bs.length) μ st' s' v:=by
 have aa:∀ k,a3d bs k=true->bs[k]?=some .acc/\k<bs.length:=by
  intro k M;unfold a3d at M;split at M
  ·rename_i H;exact ⟨H,(Bg.1 H).1⟩
  ·cases M
 unfold ajn at o;split at o
 ·rename_i k E;split at o
  ·rename_i k' g Z xs;obtain ⟨H,rfl⟩:=aa3 o;simp only [Aj] at H;obtain ⟨⟨⟨h1,h2⟩,h3⟩,h4⟩:=H;have:=Ae h1;subst this;have:=Ae h2;subst this;obtain ⟨I,J⟩:=aa _ h4;cases h with
   | @acc _ _ g0 _ _ _ hr M hg ho=>
    refine .acc hr (f.acc _ I).1 (Nat.le_refl _) (λ_=>?_);have af:g=g0:=by unfold an0 at h3;rw [M] at h3;exact Ae h3
    rcases ho af with ho | ⟨b,cap,ae,q1,O,q3,q4,q5,q6,q7⟩
    ·exact Or.inl ho
    ·exact Or.inr ⟨b,cap,ae,q1,O,q3,q4,q5,owTo_some.2 ⟨q6,J⟩,q7⟩
  ·obtain ⟨H,rfl⟩:=aa3 o;obtain ⟨I,J⟩:=aa _ H;cases h;exact .acc (.nil λ_=>rfl) (f.acc _ I).1 (Nat.le_refl _) (λ_=>Or.inl rfl)
  ·cases o
 ·split at o
  ·cases o;cases h;exact .slice (.nil λ_=>rfl)
  ·exact acd h o _ _ _
 ·split at o
  ·rename_i k fl E;have ab:avn bs k fl E=true->bs[k]?=some (.arr E fl)/\k<bs.length:=by
    intro h;unfold avn at h;split at h
    ·rename_i Z ai H;simp only [Aj] at h;have:=Ae h.1;subst this;have:=Ae h.2;subst this;exact ⟨H,(Bg.1 H).1⟩
    ·cases h
   split at o
   ·rename_i k' g Z;obtain ⟨H,rfl⟩:=aa3 o;simp only [Aj] at H;obtain ⟨⟨⟨h1,h2⟩,h3⟩,h4⟩:=H;have:=Ae h1;subst this;have:=Ae h2;subst this;obtain ⟨I,J⟩:=ab h4;obtain ⟨xs,q1,O⟩:=f.arr k E fl I;have ad:∀ {Z:TypeId}{g0:Nat}{ys:List PV},st[k]?=some (.arr Z g0 ys)->g=g0:=by
     intro Z g0 ys h;unfold aew at h3;rw [h] at h3;exact Ae h3
    have hx:∀ {Z:TypeId}{g0:Nat}{ys:List PV},st[k]?=some (.arr Z g0 ys)->ys=xs:=by
     intro Z g0 ys h;rcases O with ⟨g1,O,_⟩ | ⟨O,_⟩
     ·rw [h] at O;cases O;rfl
     ·have:=(Bg.1 h).1;omega
    cases h with
    | arrOld M ak=>have:=ad M;omega
    | arrNil M=>have:=hx M;subst this;exact .arrNil q1
    | arr M ag ah hc ho hs=>have:=hx M;subst this;exact .arr q1 ag ah hc (owTo_some.2 ⟨ho,J⟩) hs
   ·obtain ⟨H,rfl⟩:=aa3 o;simp only [Aj] at H;obtain ⟨I,J⟩:=ab H.1;obtain ⟨xs,q1,O⟩:=f.arr k E fl I;have aj:=Au H.2;rcases O with ⟨g1,O,_⟩ | ⟨_,q3⟩
    ·have:=(Bg.1 O).1;omega
    ·subst q3;cases h;exact .arrNil q1
   ·cases o
  ·obtain ⟨H,rfl⟩:=aa3 o;unfold ap5 at H;split at H
   ·rename_i fn n cs;cases h with
    | fn h0 h1 h2=>refine .fn h0 h1 (λi s v hi hv=>?_);exact ajj f (h2 i s v hi hv) (Bs.1 H s (List.mem_of_getElem? hi))
   ·exact ajj f h H
 ·split at o
  ·rename_i T x;split at o
   ·rename_i y hy;cases o;cases h with
    | ifc h=>exact .ifc (acd h hy _ _ _)
   ·cases o
  ·cases o
 ·split at o
  ·cases o;cases h with
   | ifc h=>cases h;exact .ifc (.slice (.nil λ_=>rfl))
  ·split at o
   ·rename_i y hy;cases o;cases h with
    | ifc h=>exact .ifc (acd h hy _ _ _)
   ·cases o
  ·cases o
 ·exact acd h o _ _ _
theorem a09 {h:Shape}{s:SV}:ajn P st bs h (.pan s)=none:=by
 cases h with
 | con c=>cases c<;>simp [ajn,ap5,akl]
 | _=>simp [ajn,ajb]
mutual
theorem ald (f:StFit P st bs bs st st'):∀ (p:Pat) (s:SV) (I:List Shape) (J:List SV) (H:List Shape) (o:List SV) (v:Value),agr P st bs p s I=some (J,H)->SRep P D w ow μ st s v->SRep P D w (owTo ow bs.length) μ st' (p.build (J++o)).1 v
 | .leaf,s,sh::I,J,H,o,v,h,M=>by
  simp only [agr] at h;split at h
  ·rename_i x Z;simp only [Al,Prod.mk.injEq] at h;obtain ⟨rfl,rfl⟩:=h;exact ac7 f M Z
  ·cases h
 | .leaf,s,[],J,H,o,v,h,M=>by simp [agr] at h
 | .agg T ps,s,I,J,H,o,v,h,M=>by
  simp only [agr] at h;split at h
  ·rename_i fs hf;have O:=akf M hf;obtain ⟨h1,h2⟩:=ajp f ps fs I J H o h;cases O with
   | agg hT hl ho hv hp=>refine .agg hT hl ho (by grind) (λi x fd Z aa=>?_);grind
  ·cases h
theorem ajp (f:StFit P st bs bs st st'):∀ (Z:List Pat) (ss:List SV) (I:List Shape) (M:List SV) (H:List Shape) (o:List SV),aeq P st bs Z ss I=some (M,H)->
 (aii Z (M++o)).1.length=ss.length/\∀ (i:Nat) (x:SV) (u:Value),(aii Z (M++o)).1[i]?=some x->(∀ y,ss[i]?=some y->SRep P D w ow μ st y u)->SRep P D w (owTo ow bs.length) μ st' x u
 | [],[],I,M,H,o,h=>by refine ⟨rfl,λi x u O=>?_⟩;simp [aii] at O
 | [],_::_,I,M,H,o,h=>by simp [aeq] at h
 | _::_,[],I,M,H,o,h=>by simp [aeq] at h
 | p::Z,s::ss,I,M,H,o,h=>by
  simp only [aeq] at h;split at h
  ·rename_i aa J h1;split at h
   ·rename_i ws ab h2;simp only [Al,Prod.mk.injEq] at h;obtain ⟨rfl,rfl⟩:=h;have hb:=ahg p s I aa J (ws++o) h1;obtain ⟨l1,l2⟩:=ajp f Z ss J ws _ o h2;simp only [aii,Ar];rw [hb];refine ⟨by simp [l1],λi x u O hy=>?_⟩;cases i with
    | zero=>simp at O;subst O;exact ald f p s I aa J (ws++o) u h1 (hy s (by simp))
    | succ i=>exact l2 i x u (by simpa using O) (λy h=>hy y (by simpa using h))
   ·cases h
  ·cases h
end
theorem StFit.kind (f:StFit P st bs bs st st') {k:Nat}{b:BX} (I:st'[k]?=some b):(∃ M,st[k]?=some M/\b.kind=M.kind)\/(st.length<=k):=by
 have J:k<bs.length:=by rw [<-f.len];exact (Bg.1 I).1
 have H:bs[k]?=some bs[k]:=As J;generalize bs[k]=c at H;cases c with
 | acc=>
  obtain ⟨o,h⟩:=f.acc k H;rw [I] at o;cases o;rcases h with ⟨g,h⟩ | h
  ·exact Or.inl ⟨_,h,rfl⟩
  ·exact Or.inr h
 | box T p=>obtain ⟨s,vs,Z,ab,aa,o,h,O⟩:=f.box k T p H;rw [I] at O;cases O;exact Or.inl ⟨_,o,rfl⟩
 | map K E=>obtain ⟨es,o,h⟩:=f.map k K E H;rw [I] at h;cases h;exact Or.inl ⟨_,o,rfl⟩
 | mit K E=>obtain ⟨es,o,c,h⟩:=f.mit k K E H;rw [I] at o;cases o;exact Or.inl ⟨_,h,rfl⟩
 | iter=>obtain ⟨s,p,o,h⟩:=f.iter k H;rw [I] at h;cases h;exact Or.inl ⟨_,o,rfl⟩
 | bld T=>obtain ⟨s,o,h⟩:=f.bld k T H;rw [I] at h;cases h;exact Or.inl ⟨_,o,rfl⟩
 | arr E fl=>
  obtain ⟨s,o,h⟩:=f.arr k E fl H;rw [I] at o;cases o;rcases h with ⟨g,h,_⟩ | ⟨h,_⟩
  ·exact Or.inl ⟨_,h,rfl⟩
  ·exact Or.inr h
theorem StFit.arrBack (f:StFit P st bs bs st st') {k Z:Nat}{E:TypeId}{xs:List PV} (H:st'[k]?=some (.arr E Z xs)) (ad:k<st.length):∃ g,st[k]?=some (.arr E g xs)/\(Z=0->g=0):=by
 have J:k<bs.length:=by rw [<-f.len];exact (Bg.1 H).1
 have I:bs[k]?=some bs[k]:=As J;generalize bs[k]=c at I;cases c with
 | acc=>rw [(f.acc k I).1] at H;cases H
 | box T p=>obtain ⟨s,vs,aa,ae,ab,o,h,M⟩:=f.box k T p I;rw [H] at M;cases M
 | map K E=>obtain ⟨es,o,h⟩:=f.map k K E I;rw [H] at h;cases h
 | mit K E=>obtain ⟨es,o,c,h⟩:=f.mit k K E I;rw [H] at o;cases o
 | iter=>obtain ⟨s,p,o,h⟩:=f.iter k I;rw [H] at h;cases h
 | bld T=>obtain ⟨s,o,h⟩:=f.bld k T I;rw [H] at h;cases h
 | arr E' O=>
  obtain ⟨s,o,h⟩:=f.arr k E' O I;rw [H] at o;cases o;rcases h with ⟨g,h,M⟩ | ⟨h,_⟩
  ·exact ⟨g,h,M⟩
  ·omega
theorem StFit.kept (f:StFit P st bs bs st st') {k:Nat}{b:BX} (O:st[k]?=some b) (h:k<bs.length):∃ o,st'[k]?=some o/\o.kind=b.kind:=by have H:st'[k]?=some (st'[k]'(by rw [f.len];exact h)):=As _;rcases f.kind H with ⟨J,M,I⟩ | I;all_goals grind
theorem StFit.arrOn (f:StFit P st bs bs st st') {k g:Nat}{E:TypeId}{xs:List PV} (H:st[k]?=some (.arr E g xs)) (o:k<bs.length):∃ h,st'[k]?=some (.arr E h xs)/\(h=0->g=0):=by obtain ⟨M,I,J⟩:=f.kept H o;obtain ⟨h,ys,rfl⟩:=ah2 J;obtain ⟨O,Z,h4⟩:=f.arrBack I (Bg.1 H).1;grind
theorem ArrKeep.to {w w':World}{ow o:Own}{μ H:Nat->Nat}{k n:Nat}{E:TypeId} (h:ArrKeep w ow μ w' o H k E) (hk:k<n):ArrKeep w ow μ w' (owTo o n) H k E:=by intro I M O;obtain ⟨Z,e2,J,e3,e4⟩:=h I M O;grind [owTo_some]
theorem ArrKeep.from {w w':World}{ow o:Own}{μ H:Nat->Nat}{k n:Nat}{E:TypeId} (h:ArrKeep w (owTo ow n) μ w' o H k E) (M:k<n):ArrKeep w ow μ w' o H k E:=by intro I J O;exact h I J (owTo_some.2 ⟨O,M⟩)
theorem Objs.fit (f:StFit P st bs bs st st') (h:Objs P D ow μ st w):Objs P D (owTo ow bs.length) μ st' w:=by
 refine ⟨λk b I=>?_,λb k ob=>?_,h.dlt,λb k y ob I hy o d=>?_⟩
 ·have O:k<bs.length:=by rw [<-f.len];exact (Bg.1 I).1
  have Z:bs[k]?=some bs[k]:=As O;generalize bs[k]=c at Z;have M:∀ c,ow c=some k->w.heap[c]?=w.heap[c]?/\owTo ow bs.length c=some k/\∀ o,D c o->D c o:=λc oc=>⟨rfl,owTo_some.2 ⟨oc,O⟩,λ_ d=>d⟩;cases c with
  | acc=>rw [(f.acc k Z).1] at I;cases I;trivial
  | box T p=>obtain ⟨s,vs,ad,ag,af,J,H,h3⟩:=f.box k T p Z;rw [h3] at I;cases I;obtain ⟨aa,T',q1,q2,q3,q4,q5⟩:=h.obj k _ J;exact ⟨aa,T',q1,q2,owTo_some.2 ⟨q3,O⟩,q4,ald f p s ag vs af ad _ H q5⟩
  | map K E=>obtain ⟨es,J,H⟩:=f.map k K E Z;rw [H] at I;cases I;obtain ⟨ents,clock,kc,vc,q1,q2,q3⟩:=h.obj k _ J;exact ⟨ents,clock,kc,vc,q1,owTo_some.2 ⟨q2,O⟩,q3⟩
  | iter=>obtain ⟨s,p,J,H⟩:=f.iter k Z;rw [H] at I;cases I;exact ObjRep.mono (P:=P) (b:=.iter s p) (h.obj k _ J) (λ_ _ d=>d) (Keeps.refl _ _) (λ_=>rfl) M
  | mit K E=>obtain ⟨es,J,c,H⟩:=f.mit k K E Z;rw [J] at I;cases I;have h0:=ObjRep.mono (P:=P) (b:=.mit K E c es) (h.obj k _ H) (λ_ _ d=>d) (Keeps.refl _ _) (λ_=>rfl) M;obtain ⟨q1,q2,m,ab,c0,ae,q3,q4,q5⟩:=h0;exact ⟨q1,q2,m,ab,c0,ae,q3,q4,λe he=>by cases he⟩
  | bld T=>obtain ⟨s,J,H⟩:=f.bld k T Z;rw [H] at I;cases I;exact ObjRep.mono (P:=P) (b:=.bld T s) (h.obj k _ J) (λ_ _ d=>d) (Keeps.refl _ _) (λ_=>rfl) M
  | arr E fl=>
   obtain ⟨s,J,H⟩:=f.arr k E fl Z;rw [J] at I;cases I;rcases H with ⟨g,H,_⟩ | ⟨_,H⟩
   ·have h0:ObjRep P D w ow μ k (.arr E g s):=h.obj k _ H;exact ObjRep.mono (P:=P) (b:=.arr E g s) h0 (λ_ _ d=>d) (Keeps.refl _ _) (λ_=>rfl) M
   ·subst H;exact Or.inl rfl
 ·obtain ⟨J,H⟩:=owTo_some.1 ob;exact ⟨(h.owlt b k J).1,by rw [f.len];exact H⟩
 ·obtain ⟨J,H⟩:=owTo_some.1 ob;rcases f.kind I with ⟨b0,q1,q2⟩ | q1
  ·exact h.lone b k b0 J q1 (afr q2.symm hy) o d
  ·have:=(h.owlt b k J).2;omega
theorem WRel.frame (H:Γ.np<=bs.length) (f:StFit Γ.P st bs bs st st') (h:WRel Γ D ow μ st w):WRel Γ D (owTo ow bs.length) μ st' w:=by
 have I:=h.objs.fit f;refine ⟨λk T s o=>I.obj k _ o,λk K E es o=>I.obj k _ o,λk b o=>?_,I.owlt,h.dlt,h.os,h.tape,h.output,h.hs,h.old,h.dom0,h.domN,λb k ob hb=>h.owN b k (owTo_some.1 ob).1 hb,by rw [f.len];exact H,h.mu0,λk o=>?_,I.lone,h.keep0,λk o E xs e=>?_⟩
 ·have:=I.obj k b o;cases b with
  | box T s=>trivial
  | map K E es=>trivial
  | acc g=>trivial
  | hole=>trivial
  | _=>exact this
 ·obtain ⟨s,hs,p1⟩:=h.par k o;obtain ⟨b',J,M⟩:=f.kept hs (A4 o H);grind
 ·obtain ⟨g,J,M⟩:=f.arrBack e (A4 o h.np);have:=M rfl;subst this;obtain ⟨O,Z⟩:=h.arr0 k o E xs J;exact ⟨O,Z.to (A4 o H)⟩
theorem Rel.frame {e M:Env}{a:Act} (Z:Γ.np<=bs.length) (f:StFit Γ.P st bs bs st st') (J:∀ t,M t=.undef\/∃ sh,ajn Γ.P st bs sh (e t)=some (M t)) (hr:Rel Γ e st a w):Rel Γ M st' a w:=by
 obtain ⟨D,ow,μ,hw,hs⟩:=hr;refine ⟨D,owTo ow bs.length,μ,hw.frame Z f,hs.size,hs.defers,λt=>?_⟩
 ·rcases J t with h | ⟨sh,h⟩
  ·rw [h];exact SRep.slot .undef
  ·have H:=hs.slot t;have O:∀ u o x,e t≠.gd u o x:=by
    intro u o x hg;rw [hg] at h;unfold ajn at h;split at h
    ·simp at h
    ·simp [ajb] at h
    ·split at h<;>simp [ap5,akl] at h
    ·simp at h
    ·simp at h
    ·simp [ajb] at h
   have I:SRep Γ.P D w ow μ st (e t) (a.tmps.getD t Go.undef):=by
    cases J:e t with
    | gd u o x=>exact absurd J (O u o x)
    | _=>rw [J] at H;exact H
   exact (ac7 f I h).slot
theorem Frame.dec_spec {F:Frame}{e:Env}{x:F.ty} (h:F.dec P e st=some x):StFit P st F.bs F.bs st (F.st x)/\∀ t,F.env x t=.undef\/∃ sh,ajn P st F.bs sh (e t)=some (F.env x t):=by
 unfold Frame.dec at h;split at h
 ·rename_i o I J M;have O:=arw _ _ _ h;obtain ⟨l,h4⟩:=aob _ _ _ J;have h5:=am7 _ _ _ _ M;have e1:F.st x=toSt F.bs I:=by
   grind [Frame.st,List.drop_left]
  have e2:F.env x=ajf F.slots o:=by
   unfold Frame.env;rw [<-O];have:∀ (H:List Nat) (o I:List SV),o.length=H.length->ajf H (o++I)=ajf H o:=by
    intro H;induction H with
    | nil=>grind [ajf]
    | cons t H ih=>
     intro o I Z;cases o with
     | nil=>simp at Z
     | cons v o=>simp only [Bm,ajf];simp_all
   grind
  simp_all
 ·cases h
theorem Frame.dec_sound {F:Frame}{e:Env}{x:F.ty}{a:Act} (o:Γ.P=P) (H:Γ.np<=F.bs.length) (h:F.dec P e st=some x) (M:Rel Γ e st a w):Rel Γ (F.env x) (F.st x) a w:=by subst o;obtain ⟨I,J⟩:=Frame.dec_spec h;grind [Rel.frame]
theorem Frame.dec_pan {F:Frame}{e:Env}{x:F.ty}{v:Value}{a:Act} (J:Γ.P=P) (o:Γ.np<=F.bs.length) (h:F.dec P e st=some x) (O:PRel Γ (e 0) st v a w):PRel Γ (F.env x 0) (F.st x) v a w:=by
 subst J;obtain ⟨H,I⟩:=Frame.dec_spec h;obtain ⟨M,D,ow,μ,Z,hs⟩:=O;refine ⟨M,D,owTo ow F.bs.length,μ,Z.frame o H,?_⟩;rcases I 0 with h | ⟨sh,h⟩
 ·rw [h];exact .undef
 grind [ac7]
end
def an9:LEx->LEx->Bool
 | .exit i,.exit j=>Nat.beq i j
 | .ret,.ret=>true
 | .pan,.pan=>true
 | _,_=>false
theorem ah3 {x y:LEx} (h:an9 x y=true):x=y:=by unfold an9 at h;grind [Nat.eq_of_beq_eq_true]
@[reducible] def XTy:List (LEx×Frame)->Type
 | []=>Empty
 | [x]=>x.2.ty
 | x::y::r=>x.2.ty⊕XTy (y::r)
def decX (P:Program):(X:List (LEx×Frame))->LEx->Env->List BX->Option (XTy X)
 | [],_,_,_=>none
 | [x],l,e,st=>bif an9 x.1 l then x.2.dec P e st else none
 | x::y::r,l,e,st=>bif an9 x.1 l then (match x.2.dec P e st with | some v=>some (.inl v) | none=>none) else (match decX P (y::r) l e st with | some v=>some (.inr v) | none=>none)
def exX:(X:List (LEx×Frame))->XTy X->LEx
 | [x],_=>x.1
 | x::_::_,.inl _=>x.1
 | _::y::r,.inr v=>exX (y::r) v
def envX:(X:List (LEx×Frame))->XTy X->Env
 | [x],v=>x.2.env v
 | x::_::_,.inl v=>x.2.env v
 | _::y::r,.inr v=>envX (y::r) v
def stX:(X:List (LEx×Frame))->XTy X->List BX
 | [x],v=>x.2.st v
 | x::_::_,.inl v=>x.2.st v
 | _::y::r,.inr v=>stX (y::r) v
def sumE {o β h:Type} (f:o->h) (g:β->h):o⊕β->h
 | .inl a=>f a
 | .inr b=>g b
def kX {R:Type}:(X:List (LEx×Frame))->XTy X->(LEx->Env->List BX->Option R)->Option R
 | [x],v,K=>K x.1 (x.2.env v) (x.2.st v)
 | x::y::r,v,K=>sumE (λv=>K x.1 (x.2.env v) (x.2.st v)) (λv=>kX (y::r) v K) v
theorem ban {R:Type}:∀ (X:List (LEx×Frame)) (v:XTy X) (K:LEx->Env->List BX->Option R),kX X v K=K (exX X v) (envX X v) (stX X v):=by
 intro X;induction X with
 | nil=>grind
 | cons x r h=>
  intro v K;cases r with
  | nil=>rfl
  | cons y r=>
   cases v with
   | inl v=>rfl
   | inr v=>exact h v K
def npX (np:Nat) (X:List (LEx×Frame)):Bool:=X.all λx=>Nat.ble np x.2.bs.length
theorem arp:∀ (X:List (LEx×Frame)) (v:XTy X),NoGd (envX X v):=by
 intro X;induction X with
 | nil=>grind
 | cons x r h=>
  intro v;cases r with
  | nil=>exact x.2.noGd v
  | cons y r=>
   cases v with
   | inl v=>exact x.2.noGd v
   | inr v=>exact h v
theorem akc {P:Program}{e:Env}{st:List BX}{l:LEx}:∀ (X:List (LEx×Frame)) (v:XTy X),decX P X l e st=some v->exX X v=l:=by
 intro X;induction X with
 | nil=>grind
 | cons x r I=>
  intro v h;cases r with
  | nil=>
   simp only [decX] at h;cases o:an9 x.1 l with
   | false=>grind
   | true=>exact ah3 o
  | cons y r=>
   simp only [decX] at h;cases o:an9 x.1 l with
   | true=>
    rw [o] at h;simp only [Af] at h;split at h
    ·cases h;exact ah3 o
    ·cases h
   | false=>
    rw [o] at h;simp only [Ah] at h;split at h
    ·rename_i u H;cases h;exact I u H
    ·cases h
theorem ahw {Γ:Ctx}{P:Program} (O:Γ.P=P) {w:World}{a:Act}{e:Env}{st:List BX}{l:LEx}:∀ (X:List (LEx×Frame)) (v:XTy X),npX Γ.np X=true->decX P X l e st=some v->exX X v=l/\(Rel Γ e st a w->Rel Γ (envX X v) (stX X v) a w):=by
 intro X;induction X with
 | nil=>grind
 | cons x r ih=>
  intro v H h;have Z:Γ.np<=x.2.bs.length:=by simp only [npX,Bk,Aj] at H;simp_all
  cases r with
  | nil=>
   simp only [decX] at h;cases o:an9 x.1 l with
   | false=>grind
   | true=>rw [o] at h;exact ⟨ah3 o,λJ=>Frame.dec_sound O Z h J⟩
  | cons y r=>
   simp only [decX] at h;cases o:an9 x.1 l with
   | true=>
    rw [o] at h;simp only [Af] at h;split at h
    ·rename_i u M;cases h;exact ⟨ah3 o,λJ=>Frame.dec_sound O Z M J⟩
    ·cases h
   | false=>
    rw [o] at h;simp only [Ah] at h;split at h
    ·rename_i u M;cases h;have I:npX Γ.np (y::r)=true:=by
      simp only [npX,Bk,Aj] at H ⊢;exact H.2
     exact ih u I M
    ·cases h
theorem avy {Γ:Ctx}{P:Program} (O:Γ.P=P) {w:World}{a:Act}{v0:Value}{e:Env}{st:List BX}{l:LEx}:∀ (X:List (LEx×Frame)) (v:XTy X),npX Γ.np X=true->decX P X l e st=some v->exX X v=l/\(PRel Γ (e 0) st v0 a w->PRel Γ (envX X v 0) (stX X v) v0 a w):=by
 intro X;induction X with
 | nil=>grind
 | cons x r ih=>
  intro v H h;have Z:Γ.np<=x.2.bs.length:=by simp only [npX,Bk,Aj] at H;simp_all
  cases r with
  | nil=>
   simp only [decX] at h;cases o:an9 x.1 l with
   | false=>grind
   | true=>rw [o] at h;exact ⟨ah3 o,λJ=>Frame.dec_pan O Z h J⟩
  | cons y r=>
   simp only [decX] at h;cases o:an9 x.1 l with
   | true=>
    rw [o] at h;simp only [Af] at h;split at h
    ·rename_i u M;cases h;exact ⟨ah3 o,λJ=>Frame.dec_pan O Z M J⟩
    ·cases h
   | false=>
    rw [o] at h;simp only [Ah] at h;split at h
    ·rename_i u M;cases h;have I:npX Γ.np (y::r)=true:=by
      simp only [npX,Bk,Aj] at H ⊢;exact H.2
     exact ih u I M
    ·cases h
def ad4 {h o:Type} (step:h->Option (h⊕o)):Nat->h->Option o
 | 0,_=>none
 | n+1,x=>
  match step x with
  | none=>none
  | some (.inl x1)=>ad4 step n x1
  | some (.inr y)=>some y
theorem ax5 {o H:Type}{step:o->Option (o⊕H)}:∀ (n m:Nat) (x:o) (y:H),ad4 step n x=some y->n<=m->ad4 step m x=some y:=by
 intro n;induction n with
 | zero=>grind [ad4]
 | succ n J=>intro m x y h I;obtain ⟨k,rfl⟩:∃ k,m=k+1:=⟨m-1,by omega⟩;grind [ad4]
open Classical in
noncomputable def aa9 {o H:Type} (step:o->Option (o⊕H)) (x:o):Option H:=
 if h:∃ n y,ad4 step n x=some y then ad4 step h.choose x else none
theorem ah4 {o H:Type}{step:o->Option (o⊕H)}{x:o}{y:H} (h:aa9 step x=some y):∃ n,ad4 step n x=some y:=by unfold aa9 at h;split at h;all_goals grind
theorem ap7 {o H:Type}{step:o->Option (o⊕H)}{x:o}{y:H} (n:Nat) (h:ad4 step n x=some y):aa9 step x=some y:=by unfold aa9;have I:∃ n y,ad4 step n x=some y:=⟨n,y,h⟩;rw [dif_pos I];grind [ax5,max,Nat.le_max_right,Nat.le_max_left]
theorem awj {I M:Type} (step:I->Option (I⊕M)) (x:I):aa9 step x=(match step x with | none=>none | some (.inl x1)=>aa9 step x1 | some (.inr y)=>some y):=by
 cases J:step x with
 | none=>
  cases o:aa9 step x with
  | none=>rfl
  | some y=>
   obtain ⟨n,h⟩:=ah4 o;cases n with
   | zero=>simp [ad4] at h
   | succ n=>grind [ad4]
 | some s=>
  cases s with
  | inr y=>exact ap7 1 (by simp [ad4,J])
  | inl x1=>
   show _=aa9 step x1;cases o:aa9 step x1 with
   | some y=>obtain ⟨n,h⟩:=ah4 o;exact ap7 (n+1) (by simp [ad4,J,h])
   | none=>
    cases H:aa9 step x with
    | none=>rfl
    | some y=>
     obtain ⟨n,h⟩:=ah4 H;cases n with
     | zero=>simp [ad4] at h
     | succ n=>grind [ad4,ap7]
theorem aaq {o H:Type}{step:o->Option (o⊕H)}{x x1:o} (h:step x=some (.inl x1)):aa9 step x=aa9 step x1:=by rw [awj,h]
theorem aah {o H:Type}{step:o->Option (o⊕H)}{x:o}{y:H} (h:step x=some (.inr y)):aa9 step x=some y:=by rw [awj,h]
noncomputable def aag {o H:Type} (h:Nat) (step:o->Option (o⊕H)) (x:o):Option H:=
 match h with
 | 0=>aa9 step x
 | n+1=>ad4 step (n+1) x
theorem ax4 {H I:Type}{o:Nat}{step:H->Option (H⊕I)}{x:H}{y:I} (h:aag o step x=some y):∃ n,ad4 step n x=some y:=by unfold aag at h;grind [ah4]
theorem adq {h o:Type} (step:h->Option (h⊕o)) (x:h):aag 0 step x=aa9 step x:=rfl
structure LoopE where
 key:Nat
 H:Frame
 X:List (LEx×Frame)
 step:H.ty->Option (H.ty⊕XTy X)
noncomputable def bap (P:Program) (h:Nat):List LoopE->(R:Type)->Nat->Env->List BX->(LEx->Env->List BX->Option R)->Option R
 | [],_,_,_,_,_=>none
 | l::r,R,key,e,st,K=>bif Nat.beq l.key key then (l.H.dec P e st).bind λx=>(aag h l.step x).bind λy=>kX l.X y K else bap P h r R key e st K
def au4 {h o:Type} (x:Option h):Option (h⊕o):=match x with | some v=>some (.inl v) | none=>none
def ai6 {o h:Type} (x:Option h):Option (o⊕h):=match x with | some v=>some (.inr v) | none=>none
def apb (C:Cfg) (h:Code) (l:LoopE):Prop:=
 ∀ (x:l.H.ty),exec C h { norm:=λe st=>au4 (l.H.dec C.P e st),exit:=λi e st=>ai6 (decX C.P l.X (.exit i) e st),ret:=λe st=>ai6 (decX C.P l.X .ret e st),pan:=λs st=>ai6 (decX C.P l.X .pan (λt=>bif Nat.beq t 0 then s else .undef) st) } (l.H.env x) (l.H.st x)=l.step x
theorem auc {C:Cfg} (hC:aak C) {I:Code}{l:LoopE} (hL:∀ b,b∈aaw I->LoopOk C b) (ab:Nat.ble C.np l.H.bs.length=true) (hX:npX C.np l.X=true) (J:apb C I l):
 ∀ (n:Nat) (x:l.H.ty) (y:XTy l.X),ad4 l.step n x=some y->avk C I n (l.H.env x) (l.H.st x) (exX l.X y) (envX l.X y) (stX l.X y):=by
 intro n
 induction n with
 | zero=>grind [ad4]
 | succ n ih=>
  intro x y h
  have hs:=J x
  cases hx:l.step x with
  | none=>grind [ad4]
  | some s=>
   rw [hx] at hs
   refine ax6 hC hL hs (λe1 M o hg=>?_) (λi e1 M o hg=>?_) (λe1 M o hg=>?_) (λs1 M o=>?_)
   ·simp only [au4] at o;split at o
    ·rename_i x1 h1;cases o;simp only [ad4,hx] at h;intro Γ hP hn Z Q a w hr aa hQ;exact ih x1 y h Γ hP hn Z Q a w (Frame.dec_sound hP (by simp_all) h1 hr) (l.H.noGd x1) hQ
    ·cases o
   ·simp only [ai6] at o;grind [ad4,Option.some.injEq,akc,ahw]
   ·simp only [ai6] at o;grind [ad4,Option.some.injEq,akc,ahw]
   ·simp only [ai6] at o;split at o
    ·rename_i z O;cases o;simp only [ad4,hx,Al] at h;subst h;exact ⟨akc l.X z O,λ Γ v a w hP hn hp=>(avy (a:=a) (w:=w) (v0:=v) hP l.X z (by grind) O).2 hp⟩
    ·cases o
theorem a08 {C:Cfg} (hC:aak C) {o:Code} (O:Nat) (l:LoopE) (hL:∀ b,b∈aaw o->LoopOk C b) (I:(Nat.ble C.np l.H.bs.length&&npX C.np l.X)=true) (M:apb C o l)
 (Z:∀ (R:Type) (e:Env) (st:List BX) (K:LEx->Env->List BX->Option R),C.lam R (ajl o) e st K=(l.H.dec C.P e st).bind λx=>(aag O l.step x).bind λy=>kX l.X y K):LoopOk C o:=by
 simp only [Aj] at I
 refine LoopOk.one λR e st K r h=>?_
 rw [Z] at h
 simp only [Bf] at h
 obtain ⟨x,h1,y,h2,h3⟩:=h
 rw [ban] at h3
 obtain ⟨n,h2⟩:=ax4 h2
 refine ⟨exX l.X y,envX l.X y,stX l.X y,n,h3,arp _ _,?_⟩
 intro Γ hP hn J Q a w hr hg hQ
 exact auc hC hL I.1 I.2 M n x y h2 Γ hP hn J Q a w (Frame.dec_sound hP (by rw [J];exact Au I.1) h1 hr) (l.H.noGd x) hQ
structure AFrame where
 n:Nat
 bs:List BSh
 sh:List Shape
@[reducible] def AFrame.ty (A:AFrame):Type:=TyL A.sh
def AFrame.args (A:AFrame) (x:A.ty):List SV:=(encL A.sh x).take A.n
def AFrame.st (A:AFrame) (x:A.ty):List BX:=toSt A.bs ((encL A.sh x).drop A.n)
def ah6 (P:Program) (st:List BX) (bs:List BSh):List SV->List Shape->Option (List SV)
 | [],_=>some []
 | s::ss,sh::shs=>match ajn P st bs sh s,ah6 P st bs ss shs with | some v,some vs=>some (v::vs) | _,_=>none
 | _::_,[]=>none
def AFrame.get (A:AFrame) (P:Program) (h:List SV) (st:List BX):Option A.ty:=
 bif Nat.beq h.length A.n then
  match ah6 P st A.bs h A.sh,ae5 P st A.bs A.bs st (A.sh.drop A.n) with
  | some H,some o=>getL A.sh (H++o)
  | _,_=>none
 else none
theorem aqd {P:Program}{st:List BX}{bs:List BSh}:∀ (H:List SV) (o:List Shape) (I:List SV),ah6 P st bs H o=some I->I.length=H.length/\∀ (i:Nat) (x:SV),I[i]?=some x->∃ y J,H[i]?=some y/\ajn P st bs J y=some x:=by
 intro H;induction H with
 | nil=>intro o I h;simp [ah6] at h;grind
 | cons s O M=>
  intro o I h;cases o with
  | nil=>simp [ah6] at h
  | cons J o=>simp only [ah6] at h;grind
theorem AFrame.get_spec {P:Program}{A:AFrame}{o:List SV}{st:List BX}{x:A.ty} (h:A.get P o st=some x):o.length=A.n/\StFit P st A.bs A.bs st (A.st x)/\(A.args x).length=o.length/\∀ (i:Nat) (s:SV),(A.args x)[i]?=some s->∃ y I,o[i]?=some y/\ajn P st A.bs I y=some s:=by
 unfold AFrame.get at h;cases H:Nat.beq o.length A.n with
 | false=>grind
 | true=>rw [H] at h;have J:=Ae H;simp only [Af] at h;grind [arw,aqd,am7,toSt,AFrame.st,List.drop_left,AFrame.args,List.take_left]
theorem Meets.enter {P:Program}{A:AFrame}{f:FuncId}{as:List SV}{st:List BX}{x:A.ty} (h:A.get P as st=some x) (Z:st.length<=A.bs.length) {rs:List SV}{st':List BX} (hm:Meets P f (A.args x) (A.st x) rs st'):Meets P f as st rs st':=by
 obtain ⟨h1,h2,h3,h4⟩:=AFrame.get_spec h;refine ⟨hm.1,λD ow μ w M J=>?_⟩;have aa:Pre P D (owTo ow A.bs.length) μ (A.st x) w (A.args x) M:=by
  refine ⟨by rw [J.size,h3],λi s v hs hv=>?_,J.objs.fit h2,λp H g hg=>?_⟩
  ·obtain ⟨y,sh,hy,hl⟩:=h4 i s hs;exact ac7 h2 (J.arg i y v hy hv) hl
  ·obtain ⟨q1,q2⟩:=J.tabs p H g hg;grind [owTo]
 refine (hm.2 D _ μ w M aa).mono λe w' ⟨v,D',he,H⟩=>⟨v,D',he,H.dom,λb o d=>?_,?_,H.os,H.tape,H.output,H.size,λb hb hn=>H.old b hb (by simp [owTo,hn]),H.keeps⟩
 ·rcases H.new b o d with d | d | d;all_goals grind [owTo]
 ·obtain ⟨ad,ae,hr⟩:=H.rest;refine ⟨ad,ae,hr.objs,hr.res,λb k hb I=>(owTo_some.1 (hr.own b k hb I)).1,λk b O=>?_,λk E g xs ys O ab=>?_⟩
  ·obtain ⟨b1,q1,q2⟩:=h2.kept O (A4 (Bg.1 O).1 Z);obtain ⟨b2,r1,r2,r3⟩:=hr.keep k b1 q1;grind [afr,ar4]
  ·have I:=A4 (Bg.1 O).1 Z;obtain ⟨fl,q1,q2⟩:=h2.arrOn O I;obtain ⟨r1,r2⟩:=hr.same k E fl xs ys q1 ab;exact ⟨r1,r2.from I⟩
theorem Post.leave {P:Program}{A:AFrame}{D:Dom}{w:World}{ow:Own}{μ:Nat->Nat}{st:List BX}{rs:List SV}{s:List BX}{v:Value}{D':Dom}{w':World}{y:A.ty} (h:A.get P rs s=some y) (ad:st.length<=A.bs.length) (H:Post P D w ow μ st rs s v D' w'):Post P D w ow μ st (A.args y) (A.st y) v D' w'/\ag4 (A.args y) v=ag4 rs v:=by
 obtain ⟨h1,h2,h3,h4⟩:=AFrame.get_spec h;obtain ⟨af,ag,hr⟩:=H.rest;have aj:∀ s0,rs≠[.pan s0]:=by rintro s0 rfl;obtain ⟨s1,aa⟩:=List.length_eq_one_iff.1 (show (A.args y).length=1 by rw [h3];rfl);obtain ⟨z,sh,hz,ae⟩:=h4 0 s1 (by rw [aa];rfl);grind [a09]
 rcases ab0 hr.res with ⟨s0,e,_⟩ | ⟨_,O,ab⟩
 ·grind
 have M:SRep P D' w' (owTo af A.bs.length) ag (A.st y) (ac9 (A.args y)) v:=by
  have o:=O;by_cases hl:rs.length=1
  ·obtain ⟨s0,rfl⟩:=List.length_eq_one_iff.1 hl;obtain ⟨s1,aa⟩:=List.length_eq_one_iff.1 (show (A.args y).length=1 by omega);rw [aa] at h4 ⊢;obtain ⟨z,sh,hz,ae⟩:=h4 0 s1 rfl;simp at hz;subst hz;exact ac7 h2 o ae
  ·have e1:∀ l:List SV,l.length≠1->ac9 l=.tup l:=by
    intro l hl;match l,hl with
    | [],_=>rfl
    | [x],hl=>grind
    | x::y::r,_=>rfl
   rw [e1 rs hl] at o;rw [e1 _ (by omega)];cases o with
   | tup hs ai=>refine .tup (by omega) (λi x u hx hu=>?_);grind [ac7]
 obtain ⟨Z,I⟩:=af4 M;refine ⟨⟨H.dom,H.new,?_,H.os,H.tape,H.output,H.size,H.old,H.keeps⟩,I.trans ab.symm⟩;refine ⟨owTo af A.bs.length,ag,hr.objs.fit h2,Z,λb k hb J=>hr.own b k (owTo_some.1 hb).1 J,λk b hk=>?_,λk E g xs ys hk ah=>?_⟩
 ·obtain ⟨b1,q1,q2,q3⟩:=hr.keep k b hk;obtain ⟨b2,r1,r2⟩:=h2.kept q1 (A4 (Bg.1 hk).1 ad);grind
 ·have J:=A4 (Bg.1 hk).1 ad;obtain ⟨b1,p1,p2,_⟩:=hr.keep k _ hk;obtain ⟨g1,q1,q2⟩:=h2.arrBack ah (Bg.1 p1).1;have:=q2 rfl;subst this;obtain ⟨r1,r2⟩:=hr.same k E g xs ys hk q1;exact ⟨r1,r2.to J⟩
theorem Post.leaveP {P:Program}{A:AFrame}{D:Dom}{w:World}{ow:Own}{μ:Nat->Nat}{st:List BX}{s0:SV}{s:List BX}{v:Value}{D':Dom}{w':World}{y:A.ty} (h:A.get P [s0] s=some y) (M:st.length<=A.bs.length) (o:Post P D w ow μ st [.pan s0] s v D' w'):Post P D w ow μ st [.pan ((A.args y).headD .undef)] (A.st y) v D' w':=by
 obtain ⟨h1,Z,h3,h4⟩:=AFrame.get_spec h;obtain ⟨ad,ae,J⟩:=o.rest;refine ⟨o.dom,o.new,?_,o.os,o.tape,o.output,o.size,o.old,o.keeps⟩;obtain ⟨s1,O⟩:=List.length_eq_one_iff.1 (show (A.args y).length=1 by rw [h3];rfl);obtain ⟨z,sh,hz,ab⟩:=h4 0 s1 (by rw [O];rfl);simp at hz;subst hz;rw [O];refine ⟨owTo ad A.bs.length,ae,J.objs.fit Z,ac7 Z J.res ab,λb k hb H=>J.own b k (owTo_some.1 hb).1 H,λk b I=>?_,λk E g xs ys I aa=>?_⟩
 ·obtain ⟨b1,q1,q2,q3⟩:=J.keep k b I;obtain ⟨b2,r1,r2⟩:=Z.kept q1 (A4 (Bg.1 I).1 M);grind
 ·have H:=A4 (Bg.1 I).1 M;obtain ⟨b1,p1,p2,_⟩:=J.keep k _ I;obtain ⟨g1,q1,q2⟩:=Z.arrBack aa (Bg.1 p1).1;have:=q2 rfl;subst this;obtain ⟨r1,r2⟩:=J.same k E g xs ys I q1;exact ⟨r1,r2.to H⟩
structure CallE where
 f:FuncId
 A:AFrame
 R:AFrame
 F:A.ty->Option R.ty
 dflt:R.ty
def CallE.Ok (P:Program) (c:CallE):Prop:=∀ (x:c.A.ty) (y:c.R.ty),c.F x=some y->Meets P c.f (c.A.args x) (c.A.st x) (c.R.args y) (c.R.st y)
structure CallP where
 f:FuncId
 A:AFrame
 R:AFrame
 X:AFrame
 F:A.ty->Option (R.ty⊕X.ty)
 dflt:R.ty
def CallP.Ok (P:Program) (c:CallP):Prop:=∀ (x:c.A.ty),(∀ (y:c.R.ty),c.F x=some (.inl y)->Meets P c.f (c.A.args x) (c.A.st x) (c.R.args y) (c.R.st y))/\∀ (y:c.X.ty),c.F x=some (.inr y)->Meets P c.f (c.A.args x) (c.A.st x) [.pan ((c.X.args y).headD .undef)] (c.X.st y)
def aw8 (P:Program):List CallP->(R:Type)->Bool->FuncId->List SV->List BX->(List SV->List BX->Option R)->Option R
 | [],_,_,_,_,_,_=>none
 | c::r,R,b,f,as,st,K=>
  bif Nat.beq c.f f&&Nat.ble st.length c.A.bs.length then
   match c.A.get P as st with
   | some x=>(bif b then c.F x else some (.inl c.dflt)).bind λy=>sumE (λy=>K (c.R.args y) (c.R.st y)) (λy=>K [.pan ((c.X.args y).headD .undef)] (c.X.st y)) y
   | none=>aw8 P r R b f as st K
  else aw8 P r R b f as st K
def aq9 (P:Program) (h:List CallP):List CallE->(R:Type)->Bool->FuncId->List SV->List BX->(List SV->List BX->Option R)->Option R
 | [],R,b,f,as,st,K=>aw8 P h R b f as st K
 | c::r,R,b,f,as,st,K=>
  bif Nat.beq c.f f&&Nat.ble st.length c.A.bs.length then
   match c.A.get P as st with
   | some x=>(bif b then c.F x else some c.dflt).bind λy=>K (c.R.args y) (c.R.st y)
   | none=>aq9 P h r R b f as st K
  else aq9 P h r R b f as st K
theorem a3n {P:Program}:∀ (cs:List CallP),(∀ c,c∈cs->c.Ok P)->∀ (R:Type) (b:Bool) (f:FuncId) (I:List SV) (st:List BX) (K:List SV->List BX->Option R) (r:R),aw8 P cs R b f I st K=some r->
 (b=true->∃ rs st',K rs st'=some r/\Meets P f I st rs st')/\∃ rs st',K rs st'=some r:=by
 intro cs
 induction cs with
 | nil=>grind [aw8]
 | cons c cs ih=>
  intro H R b f I st K r h
  have M:=ih (λc hc=>H c (List.mem_cons_of_mem _ hc)) R b f I st K r
  simp only [aw8] at h
  cases o:(Nat.beq c.f f&&Nat.ble st.length c.A.bs.length) with
  | false=>grind
  | true=>
   rw [o] at h
   simp only [Aj] at o
   have:=Ae o.1;subst this
   simp only [Af] at h
   split at h
   ·rename_i x hx;cases b with
    | true=>
     simp only [Af,Bf] at h;obtain ⟨y,O,J⟩:=h;have Z:=H c (by simp) x;cases y with
     | inl y=>exact ⟨λ_=>⟨_,_,J,Meets.enter hx (Au o.2) (Z.1 y O)⟩,_,_,J⟩
     | inr y=>exact ⟨λ_=>⟨_,_,J,Meets.enter hx (Au o.2) (Z.2 y O)⟩,_,_,J⟩
    | false=>simp only [Ah,Aa] at h;exact ⟨λh=>absurd h (by decide),_,_,h⟩
   ·exact M h
theorem azn {C:Cfg}{O:List CallP} (J:∀ c,c∈O->c.Ok C.P):∀ (cs:List CallE),(∀ c,c∈cs->c.Ok C.P)->∀ (R:Type) (b:Bool) (f:FuncId) (o:List SV) (st:List BX) (K:List SV->List BX->Option R) (r:R),aq9 C.P O cs R b f o st K=some r->
 (b=true->∃ rs st',K rs st'=some r/\Meets C.P f o st rs st')/\∃ rs st',K rs st'=some r:=by
 intro cs
 induction cs with
 | nil=>intro _ R b f o st K r h;exact a3n O J R b f o st K r h
 | cons c cs ih=>
  intro H R b f o st K r h
  have M:=ih (λc hc=>H c (List.mem_cons_of_mem _ hc)) R b f o st K r
  simp only [aq9] at h
  cases I:(Nat.beq c.f f&&Nat.ble st.length c.A.bs.length) with
  | false=>grind
  | true=>
   rw [I] at h
   simp only [Aj] at I
   have:=Ae I.1;subst this
   simp only [Af] at h
   split at h
   ·rename_i x hx;cases b with
    | true=>simp only [Af,Bf] at h;obtain ⟨y,h1,Z⟩:=h;refine ⟨λ_=>⟨_,_,Z,?_⟩,_,_,Z⟩;exact Meets.enter hx (Au I.2) (H c (by simp) x y h1)
    | false=>grind
   ·exact M h
@[reducible] noncomputable def cfg (P:Program) (n np:Nat) (h:List CallE) (o:List LoopE) (H:Nat) (I:List CallP:=[]) (own:Bool:=false):Cfg:=
 { P:=P,own:=own,n:=n,np:=np,call:=aq9 P I h,lam:=bap P H o }
theorem aad {P:Program}{n np:Nat}{o:List CallE}{H:List LoopE}{I:Nat}{J:List CallP}{own:Bool} (h:∀ c,c∈o->c.Ok P) (O:∀ c,c∈J->c.Ok P):aak (cfg P n np o H I J own):=
 λR b f M st K r Z=>azn (C:=cfg P n np o H I J own) O o h R b f M st K r Z
theorem a6o {P:Program}:∀ c,c∈([]:List CallP)->c.Ok P:=λc h=>by cases h
theorem callpC {P:Program}{c:CallP}{cs:List CallP} (h:c.Ok P) (o:∀ c,c∈cs->c.Ok P):∀ d,d∈c::cs->d.Ok P:=by grind
theorem a9r {P:Program}{n np:Nat}{o:List CallE}{H:List LoopE}{I:Nat} (h:∀ c,c∈o->c.Ok P):aak (cfg P n np o H I):=aad h a6o
def lp (c:Code) (i:Nat):Code:=(aaw c).getD i .skip
def aaj (fn:Func):Code:=match fn.body with | some c=>c | none=>.skip
theorem bas {C:Cfg}{c:Code} (h:(aaw c).length=0):∀ b,b∈aaw c->LoopOk C b:=by grind
theorem aos {C:Cfg}{c:Code} (n:Nat) (h:(aaw c).length=n) (I:∀ i,i<n->LoopOk C (lp c i)):∀ b,b∈aaw c->LoopOk C b:=by intro b o;obtain ⟨i,H,rfl⟩:=List.mem_iff_getElem.1 o;grind [lp,List.getElem?_eq_getElem]
theorem loopCut {C:Cfg}{o:Code} (h:∀ (R:Type) (e:Env) (st:List BX) (K:LEx->Env->List BX->Option R),C.lam R (ajl o) e st K=none):LoopOk C o:=λR e st K r H=>by grind
theorem a9z {P:Program}:∀ c,c∈([]:List CallE)->c.Ok P:=λc h=>by cases h
theorem a9y {P:Program}{c:CallE}{cs:List CallE} (h:c.Ok P) (o:∀ c,c∈cs->c.Ok P):∀ d,d∈c::cs->d.Ok P:=by grind
theorem awl {C:Cfg} (M:aak C) {f:FuncId}{fn:Func}{c:Code} (hf:C.P.funcs[f]?=some fn) (hb:fn.body=some c) (hn:fn.ntmps=C.n) (H:(fn.name== "runtime.NumGoroutine")=false) (Z:∀ o,o∈aaw c->LoopOk C o)
 {A R:AFrame}{F:A.ty->Option R.ty} (O:∀ x,axf C fn (A.args x) (A.st x) (R.get C.P)=F x) (I:∀ x,(Nat.ble (A.args x).length C.n&&Nat.beq (A.st x).length C.np&&Nat.ble (A.st x).length R.bs.length)=true) (x:A.ty) (y:R.ty) (h:F x=some y):
 Meets C.P f (A.args x) (A.st x) (R.args y) (R.st y):=by
 have J:=I x
 simp only [Aj] at J
 exact ais M hf hb hn H Z (r:=y) ((O x).trans h) (Au J.1.1) (Ae J.1.2) (λrs s hk D w ow μ v D' w' hp=>hp.leave hk (Au J.2))
def getP (P:Program) (R X:AFrame) (rs:List SV) (st:List BX):Option (R.ty⊕X.ty):=fork rs (au4 (R.get P rs st)) (λs=>ai6 (X.get P [s] st))
theorem bax {C:Cfg} (hC:aak C) {f:FuncId}{fn:Func}{c:Code} (hf:C.P.funcs[f]?=some fn) (hb:fn.body=some c) (hn:fn.ntmps=C.n) (H:(fn.name== "runtime.NumGoroutine")=false) (hL:∀ I,I∈aaw c->LoopOk C I)
 {A R X:AFrame}{F:A.ty->Option (R.ty⊕X.ty)} (hF:∀ x,axf C fn (A.args x) (A.st x) (getP C.P R X)=F x) (O:∀ x,(Nat.ble (A.args x).length C.n&&Nat.beq (A.st x).length C.np&&Nat.ble (A.st x).length R.bs.length&&Nat.ble (A.st x).length X.bs.length)=true) (x:A.ty):
 (∀ (y:R.ty),F x=some (.inl y)->Meets C.P f (A.args x) (A.st x) (R.args y) (R.st y))/\∀ (y:X.ty),F x=some (.inr y)->Meets C.P f (A.args x) (A.st x) [.pan ((X.args y).headD .undef)] (X.st y):=by
 have M:=O x
 simp only [Aj] at M
 refine ⟨λy h=>ais hC hf hb hn H hL (r:=.inl y) ((hF x).trans h) (Au M.1.1.1) (Ae M.1.1.2) (λrs s o D w ow μ v D' w' Z=>?_),λy h=>ais hC hf hb hn H hL (r:=.inr y) ((hF x).trans h) (Au M.1.1.1) (Ae M.1.1.2) (λrs s o D w ow μ v D' w' Z=>?_)⟩
 ·unfold getP at o;have J:=aef o;clear o;rcases J with ⟨s0,rfl,o⟩ | ⟨_,o⟩
  ·simp only [ai6] at o;grind
  ·simp only [au4] at o;split at o
   ·rename_i z hz;cases o;exact Z.leave hz (Au M.1.2)
   ·cases o
 ·unfold getP at o;have J:=aef o;clear o;rcases J with ⟨s0,rfl,o⟩ | ⟨_,o⟩
  ·simp only [ai6] at o;split at o
   ·rename_i z hz;cases o;exact ⟨Z.leaveP hz (Au M.2),rfl⟩
   ·cases o
  ·simp only [au4] at o;grind
end Go.Ab
namespace Go.Ab
open Go
set_option maxRecDepth 100000
def isT (o:Option Bool):Bool:=match o with | some true=>true | _=>false
theorem a4q {o:Option Bool} (h:isT o=true):o=some true:=by grind [isT]
noncomputable def limQ {H I:Type} (o:Nat) (G:Nat->H->Option I) (x:H):Option I:=
 match o with
 | 0=>open Classical in if h:∃ y,∃ N,∀ n,N<=n->G n x=some y then some (Classical.choose h) else none
 | n+1=>G (n+1) x
theorem a01 {H I:Type}{o:Nat}{G:Nat->H->Option I}{x:H}{y:I} (h:limQ o G x=some y):∃ n,G n x=some y:=by
 unfold limQ at h;split at h
 ·split at h
  ·rename_i M;cases h;obtain ⟨N,J⟩:=Classical.choose_spec M;exact ⟨N,J N (Nat.le_refl _)⟩
  ·cases h
 grind
theorem ax1 {H I:Type}{G:Nat->H->Option I}{x:H}{y:I} (N:Nat) (h:∀ n,N<=n->G n x=some y):limQ 0 G x=some y:=by have o:∃ y,∃ N,∀ n,N<=n->G n x=some y:=⟨y,N,h⟩;unfold limQ;simp only [o,dif_pos];obtain ⟨M,J⟩:=Classical.choose_spec o;rw [<-J (max N M) (Nat.le_max_right _ _),h (max N M) (Nat.le_max_left _ _)]
theorem ba0 {P:Program} (E:CallE) {o:Nat}{G:Nat->E.A.ty->Option E.R.ty} (I:∀ x,E.F x=limQ o G x) (h:∀ n,CallE.Ok P ⟨E.f,E.A,E.R,G n,E.dflt⟩):E.Ok P:=by intro x y H;rw [I] at H;obtain ⟨n,J⟩:=a01 H;exact h n x y J
theorem awp {P:Program}{f:FuncId}{A R:AFrame}{d:R.ty}:CallE.Ok P ⟨f,A,R,λ_=>none,d⟩:=λx y h=>by cases h
theorem okE {P:Program}{E:CallE}{C:Cfg} (fn:Func) (I:aak C) (M:∀ b,b∈aaw (aaj fn)->LoopOk C b) (O:C.P=P:=by kernel_rfl) (hf:C.P.funcs[E.f]?=some fn:=by kernel_rfl) (Z:fn.body=some (aaj fn):=by kernel_rfl)
 (hn:fn.ntmps=C.n:=by kernel_rfl) (o:(fn.name== "runtime.NumGoroutine")=false:=by kernel_rfl) (J:∀ x,axf C fn (E.A.args x) (E.A.st x) (E.R.get C.P)=E.F x:=by intro x;kernel_rfl)
 (H:∀ x,(Nat.ble (E.A.args x).length C.n&&Nat.beq (E.A.st x).length C.np&&Nat.ble (E.A.st x).length E.R.bs.length)=true:=by intro x;kernel_rfl):E.Ok P:=by
 subst O
 exact λx y h=>awl I hf Z hn o M J H x y h
theorem okL {C:Cfg} (O:aak C) {h:Code} (o:Nat) (l:LoopE) (Z:∀ b,b∈aaw h->LoopOk C b) (M:(Nat.ble C.np l.H.bs.length&&npX C.np l.X)=true:=by kernel_rfl) (I:apb C h l:=by intro x;kernel_rfl)
 (J:∀ (R:Type) (e:Env) (st:List BX) (K:LEx->Env->List BX->Option R),C.lam R (ajl h) e st K=(l.H.dec C.P e st).bind λx=>(aag o l.step x).bind λy=>kX l.X y K:=by intro R e st K;kernel_rfl):LoopOk C h:=a08 O o l Z M I J
theorem q0 {P:Program}:∀ c,c∈([]:List CallE)->c.Ok P:=a9z
theorem qc {P:Program}{c:CallE}{cs:List CallE} (h:c.Ok P) (o:∀ c,c∈cs->c.Ok P):∀ d,d∈c::cs->d.Ok P:=a9y h o
theorem L0 {C:Cfg}{c:Code} (h:(aaw c).length=0:=by kernel_rfl):∀ b,b∈aaw c->LoopOk C b:=bas h
theorem L1 {C:Cfg}{c:Code} (a:LoopOk C (lp c 0)) (h:(aaw c).length=1:=by kernel_rfl):∀ b,b∈aaw c->LoopOk C b:=aos 1 h λi o=>by grind
theorem L2 {C:Cfg}{c:Code} (a:LoopOk C (lp c 0)) (b:LoopOk C (lp c 1)) (h:(aaw c).length=2:=by kernel_rfl):∀ b,b∈aaw c->LoopOk C b:=aos 2 h λi o=>by grind
theorem L3 {C:Cfg}{c:Code} (a:LoopOk C (lp c 0)) (b:LoopOk C (lp c 1)) (d:LoopOk C (lp c 2)) (h:(aaw c).length=3:=by kernel_rfl):∀ b,b∈aaw c->LoopOk C b:=aos 3 h λi o=>by grind
theorem L4 {C:Cfg}{c:Code} (a:LoopOk C (lp c 0)) (b:LoopOk C (lp c 1)) (d:LoopOk C (lp c 2)) (e:LoopOk C (lp c 3)) (h:(aaw c).length=4:=by kernel_rfl):∀ b,b∈aaw c->LoopOk C b:=aos 4 h λi o=>by
 match i,o with
 | 0,_=>exact a
 | 1,_=>exact b
 | 2,_=>exact d
 | 3,_=>exact e
theorem p0 {P:Program}:∀ c,c∈([]:List CallP)->c.Ok P:=a6o
theorem okJ {P:Program}{E:CallE} (fn:Func) (n np H:Nat) (o:List CallE) (M:List CallP) (own:Bool) (h:∀ c,c∈o->c.Ok P) (hp:∀ c,c∈M->c.Ok P) (hL:∀ b,b∈aaw (aaj fn)->LoopOk (cfg P n np o [] H M own) b) (hf:P.funcs[E.f]?=some fn:=by kernel_rfl) (hb:fn.body=some (aaj fn):=by kernel_rfl)
 (hn:fn.ntmps=n:=by kernel_rfl) (I:(fn.name== "runtime.NumGoroutine")=false:=by kernel_rfl) (Z:∀ x,axf (cfg P n np o [] H M own) fn (E.A.args x) (E.A.st x) (E.R.get P)=E.F x:=by intro x;kernel_rfl)
 (J:∀ x,(Nat.ble (E.A.args x).length n&&Nat.beq (E.A.st x).length np&&Nat.ble (E.A.st x).length E.R.bs.length)=true:=by intro x;kernel_rfl):E.Ok P:=λx y O=>awl (aad h hp) hf hb hn I hL Z J x y O
theorem auf {P:Program}{f:FuncId}{E:TypeId}{xs:List PV} (h0:xs=[]->Meets P f [.nils] [] [.nils] []) (h1:Meets P f [.sln E xs] [] [.arr 0 1 E] [.arr E 1 xs]):Meets P f [.slice E xs] [] [.arr 0 1 E] [.arr E 1 xs]:=by
 refine ⟨h1.1,λD ow μ w J I=>?_⟩;obtain ⟨v,rfl⟩:∃ v,J=#[v]:=by
  have:=I.size;match J,this with
  | ⟨[a]⟩,_=>exact ⟨a,rfl⟩
 have Z:=I.arg 0 _ v rfl rfl;have M:∀ {s:SV},SRep P D w ow μ [] s v->Pre P D ow μ [] w [s] #[v]:=λ{s} h=>⟨rfl,λi s' v' hs hv=>by
  match i,hs,hv with
  | 0,hs,hv=>simp at hs hv;subst hs;subst hv;exact h,I.objs,I.tabs⟩
 cases Z with
 | slice Z=>
  have hd:v=.slice none 0 0/\xs=[]\/∃ a n c,v=.slice (some a) n c:=by
   cases Z with
   | @nil a c aa=>cases a with
    | none=>have:=aa rfl;subst this;exact Or.inl ⟨rfl,rfl⟩
    | some a=>exact Or.inr ⟨a,_,_,rfl⟩
   | mk=>exact Or.inr ⟨_,_,_,rfl⟩
  rcases hd with ⟨rfl,rfl⟩ | ⟨a,n,c,rfl⟩
  ·refine ((h0 rfl).2 D ow μ w _ (M .nils)).mono λe w' he=>?_;obtain ⟨v',D',rfl,H⟩:=he;obtain ⟨ab,ad,O⟩:=H.rest;refine ⟨v',D',rfl,H.dom,H.new,⟨ab,ad,⟨λk b e=>?_,λb k o=>?_,O.objs.dlt,λb k x o e hx q=>?_⟩,?_,O.own,λk b e=>by simp at e,λk E g xs ys e=>by simp at e⟩,H.os,H.tape,H.output,H.size,H.old,H.keeps⟩
   ·match k,e with
    | 0,e=>simp at e;subst e;exact Or.inl rfl
   ·have:=(O.objs.owlt b k o).2;simp at this
   ·have:=(O.objs.owlt b k o).2;simp at this
   ·have hr:=O.res;simp only [agz,ac9] at hr ⊢;cases hr;exact .arrNil rfl
  ·exact h1.2 D ow μ w _ (M (.sln Z))
end Go.Ab
namespace Go.Ab
open Go
open Go.ChangeMaps (setBlock)
def ae4:Code->Option (Nat×Operand)
 | .region _ ops h=>
  match h,ops.toList with
  | false,o::_=>(match o.op,o.dst,o.guard with | .next x false,some d,none=>some (d,x) | _,_,_=>none)
  | _,_=>none
 | .seq a _=>ae4 a
 | _=>none
def anr (ops:Array Oper):Array Oper:=match ops.toList with | o::r=>({ o with op:=.move (.tmp (o.dst.getD 0)) }::r).toArray | []=>ops
def aea:Code->Code
 | .region id ops h=>.region id (anr ops) h
 | .seq a b=>.seq (aea a) b
 | c=>c
theorem au2 (ops:Array Oper) (j:Nat):((anr ops)[j]?).bind (·.dst)=(ops[j]?).bind (·.dst):=by
 unfold anr;split
 ·rename_i o r h;have e:ops=(o::r).toArray:=by rw [<-h]
  rw [e];cases j with
  | zero=>simp
  | succ j=>simp
 ·rfl
theorem asn {R:Type}{C:Cfg}{ops H:Array Oper} (h:∀ (j:Nat),(H[j]?).bind (λ(o:Oper)=>o.dst)=(ops[j]?).bind (λ(o:Oper)=>o.dst)):∀ (l:List Oper) (e:Env) (st:List BX) (K:Env->List BX->Option R) (X:SV->List BX->Option R),aio C H l e st K X=aio C ops l e st K X:=by
 intro l;induction l with
 | nil=>intro e st K X;rfl
 | cons o r M=>
  intro e st K X;simp only [aio];have J:(λe st=>aio C H r e st K X)=λe st=>aio C ops r e st K X:=by funext e st;exact M e st K X
  rw [J];unfold a1v;cases o.guard with
  | none=>rfl
  | some g=>obtain ⟨j,I⟩:=g;simp only;rw [h j]
theorem Env.set_same {e:Env}{d:Nat}{v:SV} (h:e d=v):e.set d v=e:=by
 funext t;unfold Env.set;cases o:Nat.beq t d with
 | true=>have:=Ae o;subst this;exact h.symm
 | false=>rfl
theorem a5d {e:Env} (o:NoGd e) (d:Nat):opd e [] (.tmp d)=e d:=by
 simp only [opd,rd];split
 ·rename_i t w v h;exact absurd h (o d t w v)
 ·rfl
theorem azw {Γ:Ctx}{R:Type}{C:Cfg} (hC:aak C) (hP:C.P=Γ.P) (hn:Γ.n=C.n) (ak:Γ.np=C.np) (r:R):∀ (c:Code) (d:Nat) (x:Operand),ae4 c=some (d,x)->(∀ ad,ad∈aaw c->LoopOk C ad)->∀ (K:Ks R) (e:Env) (st:List BX),exec C (aea c) K e st=some r->
 ∀ (Q:Exit->Act->World->Prop),(∀ M st' J w',K.norm M st'=some r->NoGd M->Rel Γ M st' J w'->Q .normal J w')->(∀ i M st' J w',K.exit i M st'=some r->NoGd M->Rel Γ M st' J w'->Q (.exit i) J w')->
  (∀ M st' J w',K.ret M st'=some r->NoGd M->Rel Γ M st' J w'->Q .ret J w')->(∀ s st' v J w',K.pan s st'=some r->PRel Γ s st' v J w'->Q (.panic [{ v,recovered:=false }]) J w')->
  ∀ (a:Act) (w:World) (u:Value) (w1:World),(∀ ty,(Instr.next (a.eval x) false ty).run Γ.P w=.ok u w1)->Rel Γ e st (a.put (some d) u) w1->NoGd e->c.wp Γ.P Q a w:=by
 intro c
 induction c with
 | region id ops ah=>
  intro d x hh _ K e st h Q h1 h2 h3 h4 a w u w1 ab aa hg
  cases ah with
  | true=>simp [ae4] at hh
  | false=>
   cases hl:ops.toList with
   | nil=>simp [ae4,hl] at hh
   | cons o H=>
    simp only [ae4,hl] at hh
    split at hh
    ·rename_i y d' an Z I;cases hh;have es:anr ops=({ o with op:=.move (.tmp d) }::H).toArray:=by unfold anr;rw [hl];simp [Z]
     unfold aea exec runR at h;simp only [Ah,es] at h;simp only [aio,a1v,I,ac] at h;have hd:aln C.n o.dst=true:=by
      cases hd:aln C.n o.dst with
      | true=>rfl
      | false=>simp [hd] at h
     rw [hd] at h;simp only [Af,Z,put] at h;have ai:e.set d (opd e [] (.tmp d))=e:=Env.set_same (a5d hg d).symm;rw [ai] at h;have aj:∀ (j:Nat),((({ o with op:=.move (.tmp d) }::H:List Oper).toArray)[j]?).bind (λ(o:Oper)=>o.dst)=(ops[j]?).bind (λ(o:Oper)=>o.dst):=by rw [<-es];exact au2 ops
     simp only [Z,I] at aj;rw [asn (ops:=ops) aj] at h;have ae:ops.toList.drop 1=H:=by rw [hl];rfl
     have af:=alj hC hP hn ak (ops:=ops) (Q:=Q) (λM st' J w' hk O=>h1 _ _ J w' hk (NoGd.sweep M) O.sweep) h4 H 1 ae e st h (a.put (some d) u) w1 aa (hg.inv _);refine wp_region ?_;have ag:ops.size=H.length+1:=by rw [<-Array.length_toList,hl];rfl
     have ho:ops[0]?=some o:=by
      have:ops.toList[0]?=some o:=by rw [hl];rfl
      simpa using this
     have hr:List.range ops.size=0::List.range' 1 H.length:=by rw [ag,List.range_eq_range',List.range'_succ]
     rw [hr,wpOps_cons];unfold wpOp;rw [ho];have hw:Region.wanted o (yielded ops a.tmps)=true:=by simp [Region.wanted,I]
     simp only [hw,A9];refine Or.inl ?_;unfold Oper.wp execOp;simp only [an,Sem.run_bind,ab,Result.andThen_ok,Sem.run_pure,Oper.upon_value,Z];exact af
    ·cases hh
 | seq p q ao _=>
  intro d x hh hL K e st h Q h1 h2 h3 h4 a w u w1 ab aa hg
  simp only [aea] at h
  unfold exec at h
  have al:∀ b,b∈aaw q->LoopOk C b:=λb hb=>hL b (by simp [aaw,hb])
  refine wp_seq (ao d x hh (λb hb=>hL b (by simp [aaw,hb])) _ e st h (Exit.then (q.wp Γ.P Q) Q) (λM st' J w' hk am O=>?_) h2 h3 h4 a w u w1 ab aa hg)
  exact ake hC hP hn ak r q al K M st' hk Q h1 h2 h3 h4 J w' O am
 | _=>intro d x hh;simp [ae4] at hh
section
variable {Γ:Ctx}{D:Dom}{ow:Own}{μ:Nat->Nat}{st:List BX}{w:World}
theorem WRel.setMit (H:WRel Γ D ow μ st w) {k:Nat}{K E:TypeId}{c O:Option (PV×PV)}{es es':List (PV×PV)} (M:st[k]?=some (.mit K E c es)) {w':World}
 (hh:avm Γ.P D w' ow μ k K E O es') (ho:∀ b,b≠μ k->w'.heap[b]?=w.heap[b]?) (ad:w'.heap.size=w.heap.size) (aj:w'.os=w.os) (al:w'.tape=w.tape) (ak:w'.output=w.output):
 WRel Γ D ow μ (st.set k (.mit K E O es')) w'/\Moves D w ow μ st D w' ow μ (st.set k (.mit K E O es')):=by
 have ai:=(Bg.1 M).1
 obtain ⟨b4,b3,_⟩:=H.obj k _ M
 have ne:∀ {j:Nat}{y:BX},st[j]?=some y->j≠k->(st.set k (.mit K E O es'))[j]?=some y:=λe h=>by rw [Aq (by omega)];exact e
 have I:(st.set k (.mit K E O es'))[k]?=some (.mit K E O es'):=by rw [List.getElem?_set_self ai]
 have ah:Keeps D w w':=Keeps.of_heap λb o d=>ho b (λe=>by subst e;exact b4 o d)
 have m:Moves D w ow μ st D w' ow μ (st.set k (.mit K E O es')):=by
  refine ⟨λ_ _ d=>d,ah,λj T x e=>⟨rfl,x,?_⟩,λj K E es e=>⟨rfl,es,?_⟩,λj b e hs=>⟨rfl,?_⟩,λj E g xs e=>?_,λj g e=>?_⟩
  ·by_cases h:j=k
   ·subst h;rw [M] at e;cases e
   ·exact ne e h
  ·by_cases h:j=k
   ·subst h;rw [M] at e;cases e
   ·exact ne e h
  ·by_cases h:j=k
   ·subst h;rw [M] at e;cases e;exact ⟨_,I,rfl⟩
   ·exact ⟨_,ne e h,rfl⟩
  ·by_cases h:j=k
   ·subst h;rw [M] at e;cases e
   ·refine ⟨g,xs,ne e h,Nat.le_refl _,λ_=>⟨rfl,λag hc ab=>⟨rfl,ab,ag,(ho _ (λJ=>?_)).trans hc,rfl⟩⟩⟩;rw [J,b3] at ab;cases ab;exact h rfl
  ·by_cases h:j=k
   ·subst h;rw [M] at e;cases e
   ·refine ⟨g,ne e h,Nat.le_refl _,λ_ b ob=>⟨ho b (λhb=>?_),ob,λ_ d=>d⟩⟩;subst hb;rw [b3] at ob;cases ob;exact h rfl
 have Z:∀ j,j<Γ.np->∃ b,(st.set k (.mit K E O es'))[j]?=some b/\b.kind=Γ.K0 j:=by
  intro j h;obtain ⟨x,hx,p1⟩:=H.par j h;by_cases af:j=k
  ·subst af;rw [M] at hx;cases hx;exact ⟨_,I,p1⟩
  ·exact ⟨x,ne hx af,p1⟩
 refine ⟨⟨λj T x e=>?_,λj K E es e=>?_,λj x e=>?_,λb j o=>?_,λb o d=>by rw [ad];exact H.dlt b o d,aj.trans H.os,al.trans H.tape,ak.trans H.output,by rw [ad];exact H.hs,λb hb hn=>?_,H.dom0,H.domN,H.owN,by simpa using H.np,H.mu0,Z,λb j y ob e hy o d=>?_,H.keep0.trans m.keeps H.dom0,H.arr0_moves m Z⟩,m⟩
 ·by_cases h:j=k
  ·subst h;rw [I] at e;cases e
  ·rw [Aq (by omega)] at e;obtain ⟨c,T1,q1,q2,q3,q4,q5⟩:=H.box j T x e;have aa:μ j≠μ k:=λJ=>by rw [J,b3] at q3;cases q3;exact h rfl
   exact BoxRep.mono ⟨c,T1,q1,q2,q3,q4,q5⟩ m rfl (ho _ aa) q3 q4
 ·by_cases h:j=k
  ·subst h;rw [I] at e;cases e
  ·rw [Aq (by omega)] at e;obtain ⟨ents,clock,kc,vc,q1,q2,q3⟩:=H.map j K E es e;have aa:μ j≠μ k:=λJ=>by rw [J,b3] at q2;cases q2;exact h rfl
   exact OMapRep.mono ⟨ents,clock,kc,vc,q1,q2,q3⟩ m.dom m.keeps rfl (ho _ aa) q2 q3.1
 ·by_cases h:j=k
  ·subst h;rw [I] at e;cases e;exact hh
  ·rw [Aq (by omega)] at e;refine (H.obj j x e).mono m.dom m.keeps (λ_=>rfl) (λc oc=>⟨ho c (λhb=>?_),oc,λ_ d=>d⟩);subst hb;rw [b3] at oc;cases oc;exact h rfl
 ·have:=H.owlt b j o;rw [ad];simpa using this
 ·by_cases ae:b=μ k
  ·subst ae;have:=H.owN _ _ b3 hb;rw [hn] at this;cases this
  ·exact (ho b ae).trans (H.old b hb hn)
 ·by_cases h:j=k
  ·subst h;exact H.lone b j _ ob M (by simp) o d
  ·rw [Aq (by omega)] at e;exact H.lone b j y ob e hy o d
theorem art {o:Type} (f:o->Nat):∀ (l:List o) (i:Nat) (x:o),l[i]?=some x->(∀ (a b:Nat) (y z:o),l[a]?=some y->l[b]?=some z->f y=f z->a=b)->l.filter (λy=>!(f y==f x))=l.eraseIdx i:=by
 intro l;induction l with
 | nil=>intro i x h;simp at h
 | cons y r ih=>
  intro i x h H;have I:∀ (a b:Nat) (y z:o),r[a]?=some y->r[b]?=some z->f y=f z->a=b:=λa b y z M O e=>by have:=H (a+1) (b+1) y z (by simpa using M) (by simpa using O) e;omega
  cases i with
  | zero=>simp at h;subst h;simp only [List.eraseIdx_zero,List.tail_cons];rw [List.filter_cons_of_neg (by simp)];rw [List.filter_eq_self];intro z hz;obtain ⟨j,Z⟩:=List.mem_iff_getElem?.1 hz;simp only [Bool.not_eq_true',Bl,ne_eq];intro e;have:=H (j+1) 0 z y (by simpa using Z) (by simp) e;omega
  | succ i=>
   have J:f y≠f x:=λe=>by have:=H 0 (i+1) y x (by simp) h e;omega
   rw [List.filter_cons_of_pos (by simp [J]),List.eraseIdx_cons_succ,ih i x (by simpa using h) I]
theorem a0z {ents:Array MapEntry}{o:Array Nat}{clock i:Nat}{e:MapEntry} (hb:BornOk ents clock) (he:(leftOf ents o)[i]?=some e):(leftOf ents (o.push e.born)).toList=(leftOf ents o).toList.eraseIdx i:=by
 have hd:∀ (a b:Nat) (y z:MapEntry),(leftOf ents o).toList[a]?=some y->(leftOf ents o).toList[b]?=some z->y.born=z.born->a=b:=by
  have hp:ents.toList.Pairwise (λy z=>y.born≠z.born):=by rw [List.pairwise_iff_getElem];intro a b ha J aa e;have:=hb.2 a b ents.toList[a] ents.toList[b] (by simp) (by simp) e;omega
  have Z:(leftOf ents o).toList.Pairwise (λy z=>y.born≠z.born):=by unfold leftOf;rw [Array.toList_filter];exact hp.filter _
  rw [List.pairwise_iff_getElem] at Z;intro a b y z ha J e;obtain ⟨H,I⟩:=Bg.1 ha;obtain ⟨M,O⟩:=Bg.1 J;rcases Nat.lt_trichotomy a b with h | h | h
  ·exact absurd (by rw [I,O];exact e) (Z a b H M h)
  ·exact h
  ·exact absurd (by rw [I,O];exact e.symm) (Z b a M H h)
 rw [<-art (λe=>e.born) _ i e (by simpa using he) hd];unfold leftOf;rw [Array.toList_filter,Array.toList_filter,List.filter_filter];congr 1;funext y;simp only [Array.contains_push,Bool.not_or];rw [Bool.and_comm]
def aj5 (P:Program) (K E:TypeId) (x:Option (PV×PV)):SV:=match x with | some x=>.tup [.bool true,ofPV P K x.1,ofPV P E x.2] | none=>.tup [.bool false]
theorem awm (hw:WRel Γ D ow μ st w) {k:Nat}{K E:TypeId}{c:Option (PV×PV)}{es:List (PV×PV)} (hk:st[k]?=some (.mit K E c es)):
 ∃ (u:Value) (w1:World),(∀ ty,(Instr.next (.pointer (some ⟨μ k,0,none⟩)) false ty).run Γ.P w=.ok u w1)/\
  ((
   es=[]/\w1=w/\SRep Γ.P D w ow μ st (aj5 Γ.P K E none) u)\/
   ∃ (i:Nat) (x:PV×PV),es[i]?=some x/\WRel Γ D ow μ (st.set k (.mit K E (some x) (es.eraseIdx i))) w1/\Moves D w ow μ st D w1 ow μ (st.set k (.mit K E (some x) (es.eraseIdx i)))/\SRep Γ.P D w1 ow μ (st.set k (.mit K E (some x) (es.eraseIdx i))) (aj5 Γ.P K E (some x)) u):=by
 obtain ⟨b4,b3,m,H,c0,I,hh,hm,_⟩:=hw.obj k _ hk
 have ae:SRep Γ.P D w ow μ st (aj5 Γ.P K E none) (.tuple #[.bool false]):=.tup rfl (λi s v hs hv=>by
  match i,hs,hv with
  | 0,hs,hv=>simp at hs hv;subst hs;subst hv;exact .bool)
 rcases hm with ⟨rfl,rfl⟩ | ⟨r,clock,ents,kc,vc,rfl,hd,hr,rfl,hc,hb,hs,r1,r2,r3⟩
 ·exact ⟨.tuple #[.bool false],w,λty=>by simp [Instr.next,getObj,Sem.run,hh],Or.inl ⟨rfl,rfl,ae⟩⟩
 ·have ao:∀ x∈ents.toList,x.born<H:=by
   intro x hx;obtain ⟨i,hi⟩:=List.mem_iff_getElem?.1 hx;exact hb.1 i x (by simpa using hi)
  have ad:=λty=>run_next_at (P:=Γ.P) w ty (μ k) r H c0 I ents H hh hr ao hc;by_cases h0:(leftOf ents I).size=0
  ·have he:es=[]:=List.length_eq_zero_iff.1 (by omega);subst he;refine ⟨.tuple #[.bool false],w,λty=>?_,Or.inl ⟨rfl,rfl,ae⟩⟩;rcases ad ty with ⟨_,h⟩ | ⟨e,h,_⟩
   ·exact h
   ·have:=List.length_pos_of_mem h;simp at this;omega
  ·rcases ad 0 with ⟨h,_⟩ | ⟨e,al,w1,aq,hq⟩
   ·exact absurd h h0
   ·obtain ⟨i,hi⟩:=List.mem_iff_getElem?.1 al;have ag:(leftOf ents I)[i]?=some e:=by simpa using hi
    have ai:i<es.length:=by have:=(Bg.1 hi).1;simp at this;omega
    have hx:es[i]?=some es[i]:=As ai;refine ⟨.tuple #[.bool true,e.key,e.val],setBlock w1 (μ k) (.mapIter (some r) H (I.push e.born) H),λty=>?_,Or.inr ⟨i,es[i],hx,?_⟩⟩
    ·exact (show (Instr.next (.pointer (some ⟨μ k,0,none⟩)) false ty).run Γ.P w=(Instr.next (.pointer (some ⟨μ k,0,none⟩)) false 0).run Γ.P w from rfl).trans hq
    ·have aw:μ k<w.heap.size:=(hw.owlt _ _ b3).1;have aa:w1.heap=w.heap/\w1.os=w.os/\w1.tape=w.tape/\w1.output=w.output:=by rcases aq with rfl | rfl<;>exact ⟨rfl,rfl,rfl,rfl⟩
     have ap:r≠μ k:=λe=>b4 0 (by rw [<-e];exact hd);have an:(setBlock w1 (μ k) (.mapIter (some r) H (I.push e.born) H)).heap[μ k]?=some (.mapIter (some r) H (I.push e.born) H):=by simp [setBlock,aa.1,aw]
     have M:∀ b,b≠μ k->(setBlock w1 (μ k) (.mapIter (some r) H (I.push e.born) H)).heap[b]?=w.heap[b]?:=λb hb=>by show (w1.heap.setIfInBounds (μ k) _)[b]?=_;rw [Array.getElem?_setIfInBounds_ne (λe=>hb e.symm),aa.1]
     have Z:Keeps D w (setBlock w1 (μ k) (.mapIter (some r) H (I.push e.born) H)):=Keeps.of_heap λb o d=>M b (λe=>by subst e;exact b4 o d);have aj:=a0z hb ag;have ah:∀ (j:Nat),(leftOf ents (I.push e.born))[j]?=if j<i then (leftOf ents I)[j]? else (leftOf ents I)[j+1]?:=by intro j;rw [<-Bq,aj,List.getElem?_eraseIdx];simp
     have ab:∀ (j:Nat),(es.eraseIdx i)[j]?=if j<i then es[j]? else es[j+1]?:=λj=>List.getElem?_eraseIdx
     have am:avm Γ.P D (setBlock w1 (μ k) (.mapIter (some r) H (I.push e.born) H)) ow μ k K E (some es[i]) (es.eraseIdx i):=by
      refine ⟨b4,b3,some r,H,H,I.push e.born,an,Or.inr ⟨r,H,ents,λj=>if j<i then kc j else kc (j+1),λj=>if j<i then vc j else vc (j+1),rfl,hd,(M r ap).trans hr,rfl,Nat.le_refl _,hb,?_,λj x O=>?_,λj x O=>?_,λj f O=>?_⟩,λe0 ar=>?_⟩
      ·rw [<-Array.length_toList,aj,List.length_eraseIdx,List.length_eraseIdx,if_pos ai,if_pos (by simp;omega)];simp;omega
      ·rw [ab] at O;by_cases J:j<i
       ·rw [if_pos J] at O;simp only [J,A9];exact (r1 j x O).mono (λ_ _ d=>d) Z
       ·rw [if_neg J] at O;simp only [J,A8];exact (r1 _ x O).mono (λ_ _ d=>d) Z
      ·rw [ab] at O;by_cases J:j<i
       ·rw [if_pos J] at O;simp only [J,A9];exact (r2 j x O).mono (λ_ _ d=>d) Z
       ·rw [if_neg J] at O;simp only [J,A8];exact (r2 _ x O).mono (λ_ _ d=>d) Z
      ·rw [ah] at O;by_cases J:j<i
       ·rw [if_pos J] at O;simp only [J,A9];exact r3 j f O
       ·rw [if_neg J] at O;simp only [J,A8];exact r3 _ f O
      ·cases ar;obtain ⟨ek,ev⟩:=r3 i e ag;have ak:e∈ents.toList:=by
        have:=List.mem_of_getElem? hi;unfold leftOf at this;rw [Array.toList_filter] at this;exact (List.mem_filter.1 this).1
       refine ⟨r,ents,e,kc i,vc i,rfl,hd,(M r ap).trans hr,by simp,?_,(r1 i _ hx).mono (λ_ _ d=>d) Z,(r2 i _ hx).mono (λ_ _ d=>d) Z,ek,ev⟩;obtain ⟨a,ha⟩:=List.mem_iff_getElem?.1 ak;cases hf:ents.find? (λx=>x.born==e.born) with
       | none=>have:=Array.find?_eq_none.1 hf e (Array.mem_toList_iff.1 ak);simp at this
       | some f=>have av:=Array.mem_of_find?_eq_some hf;have au:=Array.find?_some hf;obtain ⟨b,af⟩:=Array.mem_iff_getElem?.1 av;have:a=b:=hb.2 a b e f (by simpa using ha) af (by simpa using (beq_iff_eq.1 au).symm);subst this;rw [show ents[a]?=some e by simpa using ha] at af;rw [af]
     obtain ⟨u1,u2⟩:=hw.setMit hk am M (by simp [setBlock,aa.1]) aa.2.1 aa.2.2.1 aa.2.2.2;refine ⟨u1,u2,?_⟩;obtain ⟨ek,ev⟩:=r3 i e ag;refine .tup rfl (λj s v hs hv=>?_);match j,hs,hv with
     | 0,hs,hv=>simp at hs hv;subst hs;subst hv;exact .bool
     | 1,hs,hv=>simp at hs hv;subst hs;subst hv;rw [ek];exact ((r1 i _ hx).mono (λ_ _ d=>d) Z).ofPV
     | 2,hs,hv=>simp at hs hv;subst hs;subst hv;rw [ev];exact ((r2 i _ hx).mono (λ_ _ d=>d) Z).ofPV
end
def mend {o I:Type} (h:o->List (PV×PV)) (H:PV×PV->List (PV×PV)->o->Option (o⊕I)) (fin:o->Option (o⊕I)):Nat->o->(I->Prop)->Prop
 | 0,x,S=>h x=[]/\∃ y,fin x=some (.inr y)/\S y
 | n+1,x,S=>(h x).length=n+1/\∀ (i:Nat) (e:PV×PV),(h x)[i]?=some e->(∃ J,H e ((h x).eraseIdx i) x=some (.inl J)/\mend h H fin n J S)\/∃ y,H e ((h x).eraseIdx i) x=some (.inr y)/\S y
def endA {h H R:Type} (o:h->List (PV×PV)) (fin:h->Option (h⊕H)) (x:h) (K:H->Option R):Option R:=match o x,fin x with | [],some (.inr y)=>K y | _,_=>none
def a6x {o H R:Type} (h:o->List (PV×PV)) (I:PV×PV->List (PV×PV)->o->Option (o⊕H)) (fin:o->Option (o⊕H)) (x:o) (K:H->Option R):Option R:=
 match h x with
 | []=>endA h fin x K
 | [e]=>(match I e [] x with | some (.inl x')=>endA h fin x' K | some (.inr y)=>K y | none=>none)
 | _=>none
open Classical in
noncomputable def a07 {H J R:Type} (I:Nat) (o:H->List (PV×PV)) (M:PV×PV->List (PV×PV)->H->Option (H⊕J)) (fin:H->Option (H⊕J)) (x:H) (K:J->Option R):Option R:=
 match I with
 | 0=>if h:∃ r,mend o M fin (o x).length x (λy=>K y=some r) then some h.choose else none
 | _+1=>a6x o M fin x K
theorem aro {o I R:Type}{H:o->List (PV×PV)}{J:PV×PV->List (PV×PV)->o->Option (o⊕I)}{fin:o->Option (o⊕I)}{x:o}{K:I->Option R}{r:R} (h:endA H fin x K=some r):mend H J fin 0 x (λy=>K y=some r):=by
 unfold endA at h;split at h
 ·rename_i y M O;exact ⟨M,y,O,h⟩
 ·cases h
theorem ax3 {H τ R:Type}{I:Nat}{o:H->List (PV×PV)}{O:PV×PV->List (PV×PV)->H->Option (H⊕τ)}{fin:H->Option (H⊕τ)}{x:H}{K:τ->Option R}{r:R} (h:a07 I o O fin x K=some r):mend o O fin (o x).length x (λy=>K y=some r):=by
 unfold a07 at h;split at h
 ·split at h
  ·rename_i hh;cases h;exact hh.choose_spec
  ·cases h
 ·unfold a6x at h;split at h
  ·rename_i M;rw [M];exact aro h
  ·rename_i e M;rw [M];refine ⟨by rw [M];rfl,λi e' J=>?_⟩;rw [M] at J ⊢;match i,J with
   | 0,J=>
    simp at J;subst J;show (∃ x',O e [] x=_/\_)\/∃ y,O e [] x=_/\_;split at h
    ·rename_i x' Z;exact Or.inl ⟨x',Z,aro h⟩
    ·rename_i z hz;exact Or.inr ⟨z,hz,h⟩
    ·cases h
  ·cases h
structure LoopM where
 key:Nat
 H:Frame
 X:List (LEx×Frame)
 rem:H.ty->List (PV×PV)
 go:PV×PV->List (PV×PV)->H.ty->Option (H.ty⊕XTy X)
 fin:H.ty->Option (H.ty⊕XTy X)
def aod (P:Program) (H:Frame) (X:List (LEx×Frame)):Ks (H.ty⊕XTy X):=
 { norm:=λe st=>au4 (H.dec P e st),exit:=λi e st=>ai6 (decX P X (.exit i) e st),ret:=λe st=>ai6 (decX P X .ret e st),pan:=λs st=>ai6 (decX P X .pan (λt=>bif Nat.beq t 0 then s else .undef) st) }
theorem aub {C:Cfg} (hC:aak C) {o:Code}{d t k:Nat}{K E:TypeId} (hh:ae4 o=some (d,.tmp t)) (hd:Nat.blt d C.n=true) (l:LoopM) (hL:∀ b,b∈aaw o->LoopOk C b) (ax:Nat.ble C.np l.H.bs.length=true) (hX:npX C.np l.X=true)
 (ap:∀ x,l.H.env x t=.mitr k) (af:∀ x,(l.H.st x)[k]?=some (.mit K E none (l.rem x)))
 (ar:∀ e es x,exec C (aea o) (aod C.P l.H l.X) ((l.H.env x).set d (aj5 C.P K E (some e))) ((l.H.st x).set k (.mit K E (some e) es))=l.go e es x)
 (al:∀ x,exec C (aea o) (aod C.P l.H l.X) ((l.H.env x).set d (aj5 C.P K E none)) ((l.H.st x).set k (.mit K E none []))=l.fin x):
 ∀ (n:Nat) (x:l.H.ty) (S:XTy l.X->Prop),mend l.rem l.go l.fin n x S->∀ (Γ:Ctx),Γ.P=C.P->Γ.n=C.n->Γ.np=C.np->∀ (Q:Exit->Act->World->Prop) (a:Act) (w:World),Rel Γ (l.H.env x) (l.H.st x) a w->NoGd (l.H.env x)->
  (∀ y,S y->avj Γ (exX l.X y) (envX l.X y) (stX l.X y) Q)->Code.rounds C.P o Q (n+1) a w:=by
 have aj:∀ (n:Nat) (S:XTy l.X->Prop) (r:l.H.ty⊕XTy l.X) (e1:Env) (ai:List BX),exec C (aea o) (aod C.P l.H l.X) e1 ai=some r->
  ∀ (Γ:Ctx),Γ.P=C.P->Γ.n=C.n->Γ.np=C.np->∀ (Q:Exit->Act->World->Prop) (a:Act) (w:World) (u:Value) (w1:World),
  (∀ x',r=.inl x'->∀ (a2:Act) (w2:World),Rel Γ (l.H.env x') (l.H.st x') a2 w2->Code.rounds C.P o Q n a2 w2)->(∀ z,r=.inr z->S z)->
  (∀ ty,(Instr.next (a.eval (.tmp t)) false ty).run Γ.P w=.ok u w1)->Rel Γ e1 ai (a.put (some d) u) w1->NoGd e1->(∀ y,S y->avj Γ (exX l.X y) (envX l.X y) (stX l.X y) Q)->
  o.wp Γ.P (Exit.then (Code.rounds C.P o Q n) Q) a w:=by
  intro n S r e1 ai hr Γ hP hn I Q a w u w1 ao ag M ab hg hQ
  refine azw hC hP.symm hn I r o d (.tmp t) hh hL (aod C.P l.H l.X) e1 ai hr (Exit.then (Code.rounds C.P o Q n) Q) (λe2 ak a2 w2 O an ae=>?_) (λi e2 ak a2 w2 O an ae=>?_) (λe2 ak a2 w2 O an ae=>?_) (λs2 ak v2 a2 w2 O hp=>?_) a w u w1 M ab hg
  ·simp only [aod,au4] at O;split at O
   ·rename_i x1 h1;cases O;exact ao x1 rfl a2 w2 (Frame.dec_sound hP (by rw [I];exact Au ax) h1 ae)
   ·cases O
  ·simp only [aod,ai6] at O;split at O
   ·rename_i z aa;cases O;have hq:=hQ z (ag z rfl);have he:=akc l.X z aa;have ah:=(ahw (a:=a2) (w:=w2) hP l.X z (by rw [I];exact hX) aa).2;rw [he] at hq;exact hq a2 w2 (ah ae)
   ·cases O
  ·simp only [aod,ai6] at O;split at O
   ·rename_i z aa;cases O;have hq:=hQ z (ag z rfl);have he:=akc l.X z aa;have ah:=(ahw (a:=a2) (w:=w2) hP l.X z (by rw [I];exact hX) aa).2;rw [he] at hq;exact hq a2 w2 (ah ae)
   ·cases O
  ·simp only [aod,ai6] at O;split at O
   ·rename_i z aa;cases O;have hq:=hQ z (ag z rfl);have he:=akc l.X z aa;have ah:=(avy (a:=a2) (w:=w2) (v0:=v2) hP l.X z (by rw [I];exact hX) aa).2 hp;rw [he] at hq;exact hq v2 a2 w2 ah
   ·cases O
 intro n
 induction n with
 | zero=>
  intro x S hm Γ hP hn I Q a w ab hg hQ
  rw [rounds_succ]
  obtain ⟨D,ow,μ,hw,hs⟩:=ab
  have J:=hs.slot t
  rw [ap] at J
  have hv:a.eval (.tmp t)=.pointer (some ⟨μ k,0,none⟩):=by show a.tmps.getD t Go.undef=_;generalize a.tmps.getD t Go.undef=v at J;cases J;rfl
  obtain ⟨u,w1,M,ad⟩:=awm hw (af x)
  obtain ⟨h0,y,h1,h2⟩:=hm
  rw [<-hP]
  rcases ad with ⟨_,rfl,hu⟩ | ⟨i,e,hi,_⟩
  ·have ay:(l.H.st x).set k (.mit K E none [])=l.H.st x:=by
    apply List.ext_getElem?;intro j;rw [List.getElem?_set];split
    ·rename_i hj;subst hj;split
     ·rw [af x,h0]
     ·rename_i au;exact absurd (Bg.1 (af x)).1 au
    ·rfl
   have hf:=al x;rw [ay,h1] at hf;have Z:Rel Γ ((l.H.env x).set d (aj5 C.P K E none)) (l.H.st x) (a.put (some d) u) w1:=
    ⟨D,ow,μ,hw,hs.put (some d) _ _ (λz hz=>by cases hz;exact ⟨by rw [hn];exact (by unfold Nat.blt at hd;exact Au hd),λt u w' q he=>absurd he (hg t u w' q)⟩) (by rw [<-hP];exact hu) (λt aq q he=>by simp [aj5] at he)⟩
   rw [hP];have:=aj 0 S (.inr y) _ _ hf Γ hP hn I Q a w1 u w1 (λx' h=>by cases h) (λz h=>by cases h;exact h2) (by rw [hv];exact M) Z (hg.set d (by simp [aj5])) hQ;rw [hP] at this;exact this
  ·rw [h0] at hi;simp at hi
 | succ n ih=>
  intro x S hm Γ hP hn I Q a w ab hg hQ
  rw [rounds_succ]
  obtain ⟨D,ow,μ,hw,hs⟩:=ab
  have J:=hs.slot t
  rw [ap] at J
  have hv:a.eval (.tmp t)=.pointer (some ⟨μ k,0,none⟩):=by show a.tmps.getD t Go.undef=_;generalize a.tmps.getD t Go.undef=v at J;cases J;rfl
  obtain ⟨u,w1,M,ad⟩:=awm hw (af x)
  obtain ⟨h0,h1⟩:=hm
  rcases ad with ⟨he,_⟩ | ⟨i,e,hi,az,aw,hu⟩
  ·rw [he] at h0;simp at h0
  ·have Z:Rel Γ ((l.H.env x).set d (aj5 C.P K E (some e))) ((l.H.st x).set k (.mit K E (some e) ((l.rem x).eraseIdx i))) (a.put (some d) u) w1:=
    ⟨D,ow,μ,az,(hs.mono aw).put (some d) _ _ (λz hz=>by cases hz;exact ⟨by rw [hn];exact (by unfold Nat.blt at hd;exact Au hd),λt u w' q he=>absurd he (hg t u w' q)⟩) (by rw [<-hP];exact hu) (λt aq q he=>by simp [aj5] at he)⟩
   have am:NoGd ((l.H.env x).set d (aj5 C.P K E (some e))):=hg.set d (by simp [aj5]);have hf:=ar e ((l.rem x).eraseIdx i) x;rcases h1 i e hi with ⟨x',aA,av⟩ | ⟨y,hy,aB⟩
   ·rw [aA] at hf;have:=aj (n+1) S (.inl x') _ _ hf Γ hP hn I Q a w u w1 (λx2 h a2 w2 ae=>by cases h;exact ih x' S av Γ hP hn I Q a2 w2 ae (l.H.noGd x') hQ) (λz h=>by cases h) (by rw [hv];exact M) Z am hQ;rw [hP] at this;exact this
   ·rw [hy] at hf;have:=aj (n+1) S (.inr y) _ _ hf Γ hP hn I Q a w u w1 (λx2 h=>by cases h) (λz h=>by cases h;exact aB) (by rw [hv];exact M) Z am hQ;rw [hP] at this;exact this
theorem okM {C:Cfg} (hC:aak C) {o:Code} (M d t k:Nat) (K E:TypeId) (l:LoopM) (hL:∀ b,b∈aaw o->LoopOk C b) (I:(Nat.ble C.np l.H.bs.length&&npX C.np l.X&&Nat.blt d C.n)=true:=by kernel_rfl) (hh:ae4 o=some (d,.tmp t):=by kernel_rfl)
 (ad:∀ x,l.H.env x t=.mitr k:=by intro x;kernel_rfl) (aa:∀ x,(l.H.st x)[k]?=some (.mit K E none (l.rem x)):=by intro x;kernel_rfl)
 (ab:∀ e es x,exec C (aea o) (aod C.P l.H l.X) ((l.H.env x).set d (aj5 C.P K E (some e))) ((l.H.st x).set k (.mit K E (some e) es))=l.go e es x:=by intro e es x;kernel_rfl)
 (O:∀ x,exec C (aea o) (aod C.P l.H l.X) ((l.H.env x).set d (aj5 C.P K E none)) ((l.H.st x).set k (.mit K E none []))=l.fin x:=by intro x;kernel_rfl)
 (Z:∀ (R:Type) (e:Env) (st:List BX) (K:LEx->Env->List BX->Option R),C.lam R (ajl o) e st K=(l.H.dec C.P e st).bind λx=>a07 M l.rem l.go l.fin x λy=>kX l.X y K:=by intro R e st K;kernel_rfl):LoopOk C o:=by
 simp only [Aj] at I
 intro R e st K' r h
 rw [Z] at h
 simp only [Bf] at h
 obtain ⟨x,h1,h2⟩:=h
 have hm:=ax3 h2
 refine ⟨(l.rem x).length+1,λ Γ hP hn J Q a w hr hg hQ=>?_⟩
 exact aub hC hh I.2 l hL I.1.1 I.1.2 ad aa ab O _ x _ hm Γ hP hn J Q a w (Frame.dec_sound hP (by rw [J];exact Au I.1.1) h1 hr) (l.H.noGd x) λy hy=>by simp only [ban] at hy;exact hQ _ _ _ hy (arp _ _)
noncomputable def lamM (P:Program) (h:Nat) (f:(R:Type)->Nat->Env->List BX->(LEx->Env->List BX->Option R)->Option R):List LoopM->(R:Type)->Nat->Env->List BX->(LEx->Env->List BX->Option R)->Option R
 | [],R,key,e,st,K=>f R key e st K
 | l::r,R,key,e,st,K=>bif Nat.beq l.key key then (l.H.dec P e st).bind λx=>a07 h l.rem l.go l.fin x λy=>kX l.X y K else lamM P h f r R key e st K
noncomputable def mcfg (C:Cfg) (h:Nat) (o:List LoopM):Cfg:={ C with lam:=lamM C.P h C.lam o }
theorem aue {C:Cfg}{o:Nat}{H:List LoopM} (h:aak C):aak (mcfg C o H):=h
def fcfg (C:Cfg) (f:FuncId):Cfg:={ C with frz:=λg=>Nat.beq f g }
theorem atw {C:Cfg}{f:FuncId} (h:aak C):aak (fcfg C f):=h
end Go.Ab
