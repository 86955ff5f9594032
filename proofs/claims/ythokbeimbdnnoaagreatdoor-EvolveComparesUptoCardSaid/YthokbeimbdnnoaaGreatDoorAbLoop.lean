/- Loops by steps, calls by entries. -/
import Derived.Test.YthokbeimbdnnoaaGreatDoorAbFrame
import Derived.KernelRfl
set_option linter.unusedVariables false
set_option linter.unusedSimpArgs false
set_option linter.unnecessarySimpa false
namespace Go.Ab
open Go
section
variable {Γ:Ctx}{D:Dom}{ow:Own}{μ:Nat->Nat}{st st':List BX}{bs:List BSh}{w:World}{P:Program}
theorem aiw {s:SV}{v:Value} (f:StFit P st bs bs st st') (h:SRep P D w ow μ st s v) (o:ajr bs s=true):SRep P D w (owTo ow bs.length) μ st' s v:=by
 unfold ajr at o;split at o
 ·rename_i k p T;unfold a7c at o;split at o
  ·rename_i Z p' z;obtain ⟨s,vs,M,aa,O,J,H,h3⟩:=f.box _ _ _ z;cases h with
   | ref I h5=>rw [J] at I;cases I;exact .ref h3 h5
  ·cases o
 ·rename_i k;unfold a7x at o;split at o
  ·rename_i K E z;obtain ⟨es,J,H⟩:=f.map _ _ _ z;cases h with
   | mref I=>rw [J] at I;cases I;exact .mref H
  ·cases o
 ·rename_i k;unfold a8a at o;split at o
  ·rename_i K E z;obtain ⟨es,J,H⟩:=f.mit _ _ _ z;cases h with
   | mitr I=>exact .mitr H
  ·cases o
 ·rename_i k;unfold a4f at o;split at o
  ·rename_i z;obtain ⟨s0,p0,J,H⟩:=f.iter _ z;cases h with
   | iref I=>exact .iref H
  ·cases o
 ·rename_i k T;unfold a7b at o;split at o
  ·rename_i Z z;obtain ⟨s0,J,H⟩:=f.bld _ _ z;cases h with
   | bref I=>exact .bref H
  ·cases o
 ·cases h;exact .nils
 ·cases o
theorem acz {sh:Shape}{s s':SV}{v:Value} (f:StFit P st bs bs st st') (h:SRep P D w ow μ st s v) (z:aiz P st bs sh s=some s'):SRep P D w (owTo ow bs.length) μ st' s' v:=by
 have aa:∀ k,a0p bs k=true->bs[k]?=some .acc/\k<bs.length:=by
  intro k J;unfold a0p at J;split at J
  ·rename_i o;exact ⟨o,(List.getElem?_eq_some_iff.1 o).1⟩
  ·cases J
 unfold aiz at z;split at z
 ·rename_i k E;split at z
  ·rename_i k' g O xs;obtain ⟨o,rfl⟩:=aa0 z;simp only [Ai] at o;obtain ⟨⟨⟨h1,h2⟩,h3⟩,h4⟩:=o;have:=Aa h1;subst this;have:=Aa h2;subst this;obtain ⟨H,I⟩:=aa _ h4;cases h with
   | @acc _ _ Z _ _ _ hr J hg ho=>
    refine .acc hr (f.acc _ H).1 (Nat.le_refl _) (λ_=>?_);have ae:g=Z:=by unfold amw at h3;rw [J] at h3;exact Aa h3
    rcases ho ae with ho | ⟨b,cap,cur,q1,M,q3,q4,q5,q6,q7⟩
    ·exact Or.inl ho
    ·exact Or.inr ⟨b,cap,cur,q1,M,q3,q4,q5,owTo_some.2 ⟨q6,I⟩,q7⟩
  ·obtain ⟨o,rfl⟩:=aa0 z;obtain ⟨H,I⟩:=aa _ o;cases h;exact .acc (.nil λ_=>rfl) (f.acc _ H).1 (Nat.le_refl _) (λ_=>Or.inl rfl)
  ·cases z
 ·split at z
  ·cases z;cases h;exact .slice (.nil λ_=>rfl)
  ·exact aco h z _ _ _
 ·split at z
  ·rename_i k fl E;have ab:at2 bs k fl E=true->bs[k]?=some (.arr E fl)/\k<bs.length:=by
    intro h;unfold at2 at h;split at h
    ·rename_i O ah o;simp only [Ai] at h;have:=Aa h.1;subst this;have:=Aa h.2;subst this;exact ⟨o,(List.getElem?_eq_some_iff.1 o).1⟩
    ·cases h
   split at z
   ·rename_i k' g O;obtain ⟨o,rfl⟩:=aa0 z;simp only [Ai] at o;obtain ⟨⟨⟨h1,h2⟩,h3⟩,h4⟩:=o;have:=Aa h1;subst this;have:=Aa h2;subst this;obtain ⟨H,I⟩:=ab h4;obtain ⟨xs,q1,M⟩:=f.arr k E fl H;have ad:∀ {O:TypeId}{Z:Nat}{ys:List PV},st[k]?=some (.arr O Z ys)->g=Z:=by
     intro O Z ys h;unfold aek at h3;rw [h] at h3;exact Aa h3
    have hx:∀ {O:TypeId}{Z:Nat}{ys:List PV},st[k]?=some (.arr O Z ys)->ys=xs:=by
     intro O Z ys h;rcases M with ⟨g1,M,_⟩ | ⟨M,_⟩
     ·rw [h] at M;cases M;rfl
     ·have:=(List.getElem?_eq_some_iff.1 h).1;omega
    cases h with
    | arrOld J aj=>have:=ad J;omega
    | arrNil J=>have:=hx J;subst this;exact .arrNil q1
    | arr J af ag hc ho hs=>have:=hx J;subst this;exact .arr q1 af ag hc (owTo_some.2 ⟨ho,I⟩) hs
   ·obtain ⟨o,rfl⟩:=aa0 z;simp only [Ai] at o;obtain ⟨H,I⟩:=ab o.1;obtain ⟨xs,q1,M⟩:=f.arr k E fl H;have ai:=Aw o.2;rcases M with ⟨g1,M,_⟩ | ⟨_,q3⟩
    ·have:=(List.getElem?_eq_some_iff.1 M).1;omega
    ·subst q3;cases h;exact .arrNil q1
   ·cases z
  ·obtain ⟨o,rfl⟩:=aa0 z;unfold ao1 at o;split at o
   ·rename_i fn n cs;cases h with
    | fn h0 h1 h2=>refine .fn h0 h1 (λi s v hi hv=>?_);exact aiw f (h2 i s v hi hv) (List.all_eq_true.1 o s (List.mem_of_getElem? hi))
   ·exact aiw f h o
 ·split at z
  ·rename_i T x;split at z
   ·rename_i y hy;cases z;cases h with
    | ifc h=>exact .ifc (aco h hy _ _ _)
   ·cases z
  ·cases z
 ·exact aco h z _ _ _
theorem ay7 {h:Shape}{s:SV}:aiz P st bs h (.pan s)=none:=by
 cases h with
 | con c=>cases c<;>simp [aiz,ao1,ajr]
 | _=>simp [aiz,ajm]
mutual
theorem akh (f:StFit P st bs bs st st'):∀ (p:Pat) (s:SV) (H:List Shape) (I:List SV) (z:List Shape) (o:List SV) (v:Value),agb P st bs p s H=some (I,z)->SRep P D w ow μ st s v->SRep P D w (owTo ow bs.length) μ st' (p.build (I++o)).1 v
 | .leaf,s,sh::H,I,z,o,v,h,J=>by
  simp only [agb] at h;split at h
  ·rename_i x Z;simp only [Al,Prod.mk.injEq] at h;obtain ⟨rfl,rfl⟩:=h;exact acz f J Z
  ·cases h
 | .leaf,s,[],I,z,o,v,h,J=>by simp [agb] at h
 | .agg T ps,s,H,I,z,o,v,h,J=>by
  simp only [agb] at h;split at h
  ·rename_i fs hf;have O:=ajn J hf;obtain ⟨h1,h2⟩:=ai1 f ps fs H I z o h;cases O with
   | agg hT hl ho hv hp=>refine .agg hT hl ho (by rw [<-hv];exact h1) (λi x fd Z M=>?_);exact h2 i x _ Z (λy hy=>hp i y fd hy M)
  ·cases h
theorem ai1 (f:StFit P st bs bs st st'):∀ (O:List Pat) (Z:List SV) (H:List Shape) (J:List SV) (z:List Shape) (o:List SV),aeg P st bs O Z H=some (J,z)->
 (ahz O (J++o)).1.length=Z.length/\∀ (i:Nat) (x:SV) (u:Value),(ahz O (J++o)).1[i]?=some x->(∀ y,Z[i]?=some y->SRep P D w ow μ st y u)->SRep P D w (owTo ow bs.length) μ st' x u
 | [],[],H,J,z,o,h=>by refine ⟨rfl,λi x u M=>?_⟩;simp [ahz] at M
 | [],_::_,H,J,z,o,h=>by simp [aeg] at h
 | _::_,[],H,J,z,o,h=>by simp [aeg] at h
 | p::O,s::Z,H,J,z,o,h=>by
  simp only [aeg] at h;split at h
  ·rename_i aa I h1;split at h
   ·rename_i ws ab h2;simp only [Al,Prod.mk.injEq] at h;obtain ⟨rfl,rfl⟩:=h;have hb:=ag1 p s H aa I (ws++o) h1;obtain ⟨l1,l2⟩:=ai1 f O Z I ws _ o h2;simp only [ahz,Ap];rw [hb];refine ⟨by simp [l1],λi x u M hy=>?_⟩;cases i with
    | zero=>simp at M;subst M;exact akh f p s H aa I (ws++o) u h1 (hy s (by simp))
    | succ i=>exact l2 i x u (by simpa using M) (λy h=>hy y (by simpa using h))
   ·cases h
  ·cases h
end
theorem StFit.kind (f:StFit P st bs bs st st') {k:Nat}{b:BX} (H:st'[k]?=some b):(∃ J,st[k]?=some J/\b.kind=J.kind)\/(st.length<=k):=by
 have I:k<bs.length:=by rw [<-f.len];exact (List.getElem?_eq_some_iff.1 H).1
 have z:bs[k]?=some bs[k]:=Aq I;generalize bs[k]=c at z;cases c with
 | acc=>
  obtain ⟨o,h⟩:=f.acc k z;rw [H] at o;cases o;rcases h with ⟨g,h⟩ | h
  ·exact Or.inl ⟨_,h,rfl⟩
  ·exact Or.inr h
 | box T p=>obtain ⟨s,vs,O,aa,Z,o,h,M⟩:=f.box k T p z;rw [H] at M;cases M;exact Or.inl ⟨_,o,rfl⟩
 | map K E=>obtain ⟨es,o,h⟩:=f.map k K E z;rw [H] at h;cases h;exact Or.inl ⟨_,o,rfl⟩
 | mit K E=>obtain ⟨es,o,h⟩:=f.mit k K E z;rw [H] at h;cases h;exact Or.inl ⟨_,o,rfl⟩
 | iter=>obtain ⟨s,p,o,h⟩:=f.iter k z;rw [H] at h;cases h;exact Or.inl ⟨_,o,rfl⟩
 | bld T=>obtain ⟨s,o,h⟩:=f.bld k T z;rw [H] at h;cases h;exact Or.inl ⟨_,o,rfl⟩
 | arr E fl=>
  obtain ⟨s,o,h⟩:=f.arr k E fl z;rw [H] at o;cases o;rcases h with ⟨g,h,_⟩ | ⟨h,_⟩
  ·exact Or.inl ⟨_,h,rfl⟩
  ·exact Or.inr h
theorem StFit.arrBack (f:StFit P st bs bs st st') {k O:Nat}{E:TypeId}{xs:List PV} (o:st'[k]?=some (.arr E O xs)) (ab:k<st.length):∃ g,st[k]?=some (.arr E g xs)/\(O=0->g=0):=by
 have I:k<bs.length:=by rw [<-f.len];exact (List.getElem?_eq_some_iff.1 o).1
 have z:bs[k]?=some bs[k]:=Aq I;generalize bs[k]=c at z;cases c with
 | acc=>rw [(f.acc k z).1] at o;cases o
 | box T p=>obtain ⟨s,vs,Z,ad,aa,H,h,J⟩:=f.box k T p z;rw [o] at J;cases J
 | map K E=>obtain ⟨es,H,h⟩:=f.map k K E z;rw [o] at h;cases h
 | mit K E=>obtain ⟨es,H,h⟩:=f.mit k K E z;rw [o] at h;cases h
 | iter=>obtain ⟨s,p,H,h⟩:=f.iter k z;rw [o] at h;cases h
 | bld T=>obtain ⟨s,H,h⟩:=f.bld k T z;rw [o] at h;cases h
 | arr E' M=>
  obtain ⟨s,H,h⟩:=f.arr k E' M z;rw [o] at H;cases H;rcases h with ⟨g,h,J⟩ | ⟨h,_⟩
  ·exact ⟨g,h,J⟩
  ·omega
theorem StFit.kept (f:StFit P st bs bs st st') {k:Nat}{b:BX} (J:st[k]?=some b) (h:k<bs.length):∃ o,st'[k]?=some o/\o.kind=b.kind:=by
 have z:st'[k]?=some (st'[k]'(by rw [f.len];exact h)):=Aq _;rcases f.kind z with ⟨M,H,I⟩ | I
 ·rw [J] at H;cases H;exact ⟨_,z,I⟩
 ·have:=(List.getElem?_eq_some_iff.1 J).1;omega
theorem StFit.arrOn (f:StFit P st bs bs st st') {k g:Nat}{E:TypeId}{xs:List PV} (o:st[k]?=some (.arr E g xs)) (z:k<bs.length):∃ h,st'[k]?=some (.arr E h xs)/\(h=0->g=0):=by obtain ⟨O,H,J⟩:=f.kept o z;obtain ⟨h,ys,rfl⟩:=ahk J;obtain ⟨Z,I,M⟩:=f.arrBack H (List.getElem?_eq_some_iff.1 o).1;rw [o] at I;cases I;exact ⟨h,H,M⟩
theorem ArrKeep.to {w w':World}{ow z:Own}{μ H:Nat->Nat}{k n:Nat}{E:TypeId} (h:ArrKeep w ow μ w' z H k E) (hk:k<n):ArrKeep w ow μ w' (owTo z n) H k E:=by intro cur Z ho;obtain ⟨I,J,o,M,O⟩:=h cur Z ho;exact ⟨I,owTo_some.2 ⟨J,hk⟩,o,M,O⟩
theorem ArrKeep.from {w w':World}{ow o:Own}{μ z:Nat->Nat}{k n:Nat}{E:TypeId} (h:ArrKeep w (owTo ow n) μ w' o z k E) (I:k<n):ArrKeep w ow μ w' o z k E:=by intro cur H J;exact h cur H (owTo_some.2 ⟨J,I⟩)
theorem Objs.fit (f:StFit P st bs bs st st') (h:Objs P D ow μ st w):Objs P D (owTo ow bs.length) μ st' w:=by
 refine ⟨λk b H=>?_,λb k ob=>?_,h.dlt,λb k y ob H hy o d=>?_⟩
 ·have M:k<bs.length:=by rw [<-f.len];exact (List.getElem?_eq_some_iff.1 H).1
  have O:bs[k]?=some bs[k]:=Aq M;generalize bs[k]=c at O;have J:∀ c,ow c=some k->w.heap[c]?=w.heap[c]?/\owTo ow bs.length c=some k/\∀ o,D c o->D c o:=λc oc=>⟨rfl,owTo_some.2 ⟨oc,M⟩,λ_ d=>d⟩;cases c with
  | acc=>rw [(f.acc k O).1] at H;cases H;trivial
  | box T p=>obtain ⟨s,vs,aa,ad,ab,I,z,h3⟩:=f.box k T p O;rw [h3] at H;cases H;obtain ⟨Z,T',q1,q2,q3,q4,q5⟩:=h.obj k _ I;exact ⟨Z,T',q1,q2,owTo_some.2 ⟨q3,M⟩,q4,akh f p s ad vs ab aa _ z q5⟩
  | map K E=>obtain ⟨es,I,z⟩:=f.map k K E O;rw [z] at H;cases H;obtain ⟨ents,clock,kc,vc,q1,q2,q3⟩:=h.obj k _ I;exact ⟨ents,clock,kc,vc,q1,owTo_some.2 ⟨q2,M⟩,q3⟩
  | iter=>obtain ⟨s,p,I,z⟩:=f.iter k O;rw [z] at H;cases H;exact ObjRep.mono (P:=P) (b:=.iter s p) (h.obj k _ I) (λ_ _ d=>d) (Keeps.refl _ _) (λ_=>rfl) J
  | mit K E=>obtain ⟨es,I,z⟩:=f.mit k K E O;rw [z] at H;cases H;exact ObjRep.mono (P:=P) (b:=.mit K E es) (h.obj k _ I) (λ_ _ d=>d) (Keeps.refl _ _) (λ_=>rfl) J
  | bld T=>obtain ⟨s,I,z⟩:=f.bld k T O;rw [z] at H;cases H;exact ObjRep.mono (P:=P) (b:=.bld T s) (h.obj k _ I) (λ_ _ d=>d) (Keeps.refl _ _) (λ_=>rfl) J
  | arr E fl=>
   obtain ⟨s,I,z⟩:=f.arr k E fl O;rw [I] at H;cases H;rcases z with ⟨g,z,_⟩ | ⟨_,z⟩
   ·have h0:ObjRep P D w ow μ k (.arr E g s):=h.obj k _ z;exact ObjRep.mono (P:=P) (b:=.arr E g s) h0 (λ_ _ d=>d) (Keeps.refl _ _) (λ_=>rfl) J
   ·subst z;exact Or.inl rfl
 ·obtain ⟨I,z⟩:=owTo_some.1 ob;exact ⟨(h.owlt b k I).1,by rw [f.len];exact z⟩
 ·obtain ⟨I,z⟩:=owTo_some.1 ob;rcases f.kind H with ⟨b0,q1,q2⟩ | q1
  ·exact h.lone b k b0 I q1 (afe q2.symm hy) o d
  ·have:=(h.owlt b k I).2;omega
theorem WRel.frame (z:Γ.np<=bs.length) (f:StFit Γ.P st bs bs st st') (h:WRel Γ D ow μ st w):WRel Γ D (owTo ow bs.length) μ st' w:=by
 have H:=h.objs.fit f;refine ⟨λk T s o=>H.obj k _ o,λk K E es o=>H.obj k _ o,λk b o=>?_,H.owlt,h.dlt,h.os,h.tape,h.output,h.hs,h.old,h.dom0,h.domN,λb k ob hb=>h.owN b k (owTo_some.1 ob).1 hb,by rw [f.len];exact z,h.mu0,λk o=>?_,H.lone,h.keep0,λk o E xs e=>?_⟩
 ·have:=H.obj k b o;cases b with
  | box T s=>trivial
  | map K E es=>trivial
  | acc g=>trivial
  | hole=>trivial
  | _=>exact this
 ·obtain ⟨s,hs,p1⟩:=h.par k o;obtain ⟨M,I,J⟩:=f.kept hs (A5 o z);exact ⟨M,I,J.trans p1⟩
 ·obtain ⟨g,I,J⟩:=f.arrBack e (A5 o h.np);have:=J rfl;subst this;obtain ⟨O,Z⟩:=h.arr0 k o E xs I;exact ⟨O,Z.to (A5 o z)⟩
theorem Rel.frame {e J:Env}{a:Act} (O:Γ.np<=bs.length) (f:StFit Γ.P st bs bs st st') (I:∀ t,J t=.undef\/∃ sh,aiz Γ.P st bs sh (e t)=some (J t)) (hr:Rel Γ e st a w):Rel Γ J st' a w:=by
 obtain ⟨D,ow,μ,hw,Z⟩:=hr;refine ⟨D,owTo ow bs.length,μ,hw.frame O f,Z.size,Z.defers,λt=>?_⟩
 ·rcases I t with h | ⟨sh,h⟩
  ·rw [h];exact SRep.slot .undef
  ·have z:=Z.slot t;have M:∀ u o x,e t≠.gd u o x:=by
    intro u o x hg;rw [hg] at h;unfold aiz at h;split at h
    ·simp at h
    ·simp [ajm] at h
    ·split at h<;>simp [ao1,ajr] at h
    ·simp at h
    ·simp [ajm] at h
   have H:SRep Γ.P D w ow μ st (e t) (a.tmps.getD t Go.undef):=by
    cases I:e t with
    | gd u o x=>exact absurd I (M u o x)
    | _=>rw [I] at z;exact z
   exact (acz f H h).slot
theorem Frame.dec_spec {F:Frame}{e:Env}{x:F.ty} (h:F.dec P e st=some x):StFit P st F.bs F.bs st (F.st x)/\∀ t,F.env x t=.undef\/∃ sh,aiz P st F.bs sh (e t)=some (F.env x t):=by
 unfold Frame.dec at h;split at h
 ·rename_i o H Z h2;have I:=aqo _ _ _ h;obtain ⟨l,h4⟩:=am6 _ _ _ Z;have h5:=al9 _ _ _ _ h2;have M:F.st x=toSt F.bs H:=by
   unfold Frame.st;rw [<-I,<-l,List.drop_left]
  have O:F.env x=aiq F.slots o:=by
   unfold Frame.env;rw [<-I];have:∀ (z:List Nat) (o H:List SV),o.length=z.length->aiq z (o++H)=aiq z o:=by
    intro z;induction z with
    | nil=>intro o H _;simp [aiq]
    | cons t z ih=>
     intro o H J;cases o with
     | nil=>simp at J
     | cons v o=>simp only [Bm,aiq];rw [ih o H (by simpa using J)]
   exact this _ _ _ l
  rw [M,O];exact ⟨h5,h4⟩
 ·cases h
theorem Frame.dec_sound {F:Frame}{e:Env}{x:F.ty}{a:Act} (I:Γ.P=P) (o:Γ.np<=F.bs.length) (h:F.dec P e st=some x) (J:Rel Γ e st a w):Rel Γ (F.env x) (F.st x) a w:=by subst I;obtain ⟨z,H⟩:=Frame.dec_spec h;exact Rel.frame o z H J
theorem Frame.dec_pan {F:Frame}{e:Env}{x:F.ty}{v:Value}{a:Act} (I:Γ.P=P) (o:Γ.np<=F.bs.length) (h:F.dec P e st=some x) (M:PRel Γ (e 0) st v a w):PRel Γ (F.env x 0) (F.st x) v a w:=by
 subst I;obtain ⟨z,H⟩:=Frame.dec_spec h;obtain ⟨J,D,ow,μ,Z,O⟩:=M;refine ⟨J,D,owTo ow F.bs.length,μ,Z.frame o z,?_⟩;rcases H 0 with h | ⟨sh,h⟩
 ·rw [h];exact .undef
 ·exact acz z O h
end
def am5:LEx->LEx->Bool
 | .exit i,.exit j=>Nat.beq i j
 | .ret,.ret=>true
 | .pan,.pan=>true
 | _,_=>false
theorem ahl {x y:LEx} (h:am5 x y=true):x=y:=by
 unfold am5 at h;split at h
 ·rw [Aa h]
 ·rfl
 ·rfl
 ·cases h
@[reducible] def XTy:List (LEx×Frame)->Type
 | []=>Empty
 | [x]=>x.2.ty
 | x::y::r=>x.2.ty⊕XTy (y::r)
def decX (P:Program):(X:List (LEx×Frame))->LEx->Env->List BX->Option (XTy X)
 | [],_,_,_=>none
 | [x],l,e,st=>bif am5 x.1 l then x.2.dec P e st else none
 | x::y::r,l,e,st=>bif am5 x.1 l then (match x.2.dec P e st with | some v=>some (.inl v) | none=>none) else (match decX P (y::r) l e st with | some v=>some (.inr v) | none=>none)
def exX:(X:List (LEx×Frame))->XTy X->LEx
 | [x],_=>x.1
 | x::_::_,.inl _=>x.1
 | _::y::r,.inr v=>exX (y::r) v
def envX:(X:List (LEx×Frame))->XTy X->Env
 | [x],v=>x.2.env v
 | x::_::_,.inl v=>x.2.env v
 | _::y::r,.inr v=>envX (y::r) v
def stX:(X:List (LEx×Frame))->XTy X->List BX
 | [x],v=>x.2.st v
 | x::_::_,.inl v=>x.2.st v
 | _::y::r,.inr v=>stX (y::r) v
def sumE {o z h:Type} (f:o->h) (g:z->h):o⊕z->h
 | .inl a=>f a
 | .inr b=>g b
def kX {R:Type}:(X:List (LEx×Frame))->XTy X->(LEx->Env->List BX->Option R)->Option R
 | [x],v,K=>K x.1 (x.2.env v) (x.2.st v)
 | x::y::r,v,K=>sumE (λv=>K x.1 (x.2.env v) (x.2.st v)) (λv=>kX (y::r) v K) v
theorem kX_eq {R:Type}:∀ (X:List (LEx×Frame)) (v:XTy X) (K:LEx->Env->List BX->Option R),kX X v K=K (exX X v) (envX X v) (stX X v):=by
 intro X;induction X with
 | nil=>intro v;cases v
 | cons x r h=>
  intro v K;cases r with
  | nil=>rfl
  | cons y r=>
   cases v with
   | inl v=>rfl
   | inr v=>exact h v K
def npX (np:Nat) (X:List (LEx×Frame)):Bool:=X.all λx=>Nat.ble np x.2.bs.length
theorem axy:∀ (X:List (LEx×Frame)) (v:XTy X),NoGd (envX X v):=by
 intro X;induction X with
 | nil=>intro v;cases v
 | cons x r h=>
  intro v;cases r with
  | nil=>exact x.2.noGd v
  | cons y r=>
   cases v with
   | inl v=>exact x.2.noGd v
   | inr v=>exact h v
theorem asf {P:Program}{e:Env}{st:List BX}{l:LEx}:∀ (X:List (LEx×Frame)) (v:XTy X),decX P X l e st=some v->exX X v=l:=by
 intro X;induction X with
 | nil=>intro v;cases v
 | cons x r H=>
  intro v h;cases r with
  | nil=>
   simp only [decX] at h;cases o:am5 x.1 l with
   | false=>rw [o] at h;simp at h
   | true=>exact ahl o
  | cons y r=>
   simp only [decX] at h;cases o:am5 x.1 l with
   | true=>
    rw [o] at h;simp only [Af] at h;split at h
    ·cases h;exact ahl o
    ·cases h
   | false=>
    rw [o] at h;simp only [Ah] at h;split at h
    ·rename_i u z;cases h;exact H u z
    ·cases h
theorem anm {Γ:Ctx}{P:Program} (M:Γ.P=P) {w:World}{a:Act}{e:Env}{st:List BX}{l:LEx}:∀ (X:List (LEx×Frame)) (v:XTy X),npX Γ.np X=true->decX P X l e st=some v->exX X v=l/\(Rel Γ e st a w->Rel Γ (envX X v) (stX X v) a w):=by
 intro X;induction X with
 | nil=>intro v;cases v
 | cons x r Z=>
  intro v z h;have O:Γ.np<=x.2.bs.length:=by simp only [npX,Bj,Ai] at z;exact Aw z.1
  cases r with
  | nil=>
   simp only [decX] at h;cases o:am5 x.1 l with
   | false=>rw [o] at h;simp at h
   | true=>rw [o] at h;exact ⟨ahl o,λI=>Frame.dec_sound M O h I⟩
  | cons y r=>
   simp only [decX] at h;cases o:am5 x.1 l with
   | true=>
    rw [o] at h;simp only [Af] at h;split at h
    ·rename_i u J;cases h;exact ⟨ahl o,λI=>Frame.dec_sound M O J I⟩
    ·cases h
   | false=>
    rw [o] at h;simp only [Ah] at h;split at h
    ·rename_i u J;cases h;have H:npX Γ.np (y::r)=true:=by
      simp only [npX,Bj,Ai] at z ⊢;exact z.2
     exact Z u H J
    ·cases h
theorem a09 {Γ:Ctx}{P:Program} (M:Γ.P=P) {w:World}{a:Act}{v0:Value}{e:Env}{st:List BX}{l:LEx}:∀ (X:List (LEx×Frame)) (v:XTy X),npX Γ.np X=true->decX P X l e st=some v->exX X v=l/\(PRel Γ (e 0) st v0 a w->PRel Γ (envX X v 0) (stX X v) v0 a w):=by
 intro X;induction X with
 | nil=>intro v;cases v
 | cons x r Z=>
  intro v z h;have O:Γ.np<=x.2.bs.length:=by simp only [npX,Bj,Ai] at z;exact Aw z.1
  cases r with
  | nil=>
   simp only [decX] at h;cases o:am5 x.1 l with
   | false=>rw [o] at h;simp at h
   | true=>rw [o] at h;exact ⟨ahl o,λI=>Frame.dec_pan M O h I⟩
  | cons y r=>
   simp only [decX] at h;cases o:am5 x.1 l with
   | true=>
    rw [o] at h;simp only [Af] at h;split at h
    ·rename_i u J;cases h;exact ⟨ahl o,λI=>Frame.dec_pan M O J I⟩
    ·cases h
   | false=>
    rw [o] at h;simp only [Ah] at h;split at h
    ·rename_i u J;cases h;have H:npX Γ.np (y::r)=true:=by
      simp only [npX,Bj,Ai] at z ⊢;exact z.2
     exact Z u H J
    ·cases h
def ads {h o:Type} (step:h->Option (h⊕o)):Nat->h->Option o
 | 0,_=>none
 | n+1,x=>
  match step x with
  | none=>none
  | some (.inl x1)=>ads step n x1
  | some (.inr y)=>some y
theorem ans {o H:Type}{step:o->Option (o⊕H)}:∀ (n m:Nat) (x:o) (y:H),ads step n x=some y->n<=m->ads step m x=some y:=by
 intro n;induction n with
 | zero=>intro m x y h;simp [ads] at h
 | succ n J=>
  intro m x y h M;obtain ⟨k,rfl⟩:∃ k,m=k+1:=⟨m-1,by omega⟩;unfold ads at h ⊢;split at h
  ·cases h
  ·rename_i x1 I;exact J k x1 y h (by omega)
  ·rename_i z I;exact h
open Classical in
noncomputable def aba {o z:Type} (step:o->Option (o⊕z)) (x:o):Option z:=
 if h:∃ n y,ads step n x=some y then ads step h.choose x else none
theorem ahm {o z:Type}{step:o->Option (o⊕z)}{x:o}{y:z} (h:aba step x=some y):∃ n,ads step n x=some y:=by
 unfold aba at h;split at h
 ·exact ⟨_,h⟩
 ·cases h
theorem ao4 {H M:Type}{step:H->Option (H⊕M)}{x:H}{y:M} (n:Nat) (h:ads step n x=some y):aba step x=some y:=by unfold aba;have o:∃ n y,ads step n x=some y:=⟨n,y,h⟩;rw [dif_pos o];obtain ⟨z,J⟩:=o.choose_spec;have O:=ans _ (max n o.choose) _ _ J (Nat.le_max_right _ _);have I:=ans _ (max n o.choose) _ _ h (Nat.le_max_left _ _);rw [O] at I;cases I;exact J
theorem aur {I J:Type} (step:I->Option (I⊕J)) (x:I):aba step x=(match step x with | none=>none | some (.inl x1)=>aba step x1 | some (.inr y)=>some y):=by
 cases z:step x with
 | none=>
  cases o:aba step x with
  | none=>rfl
  | some y=>
   obtain ⟨n,h⟩:=ahm o;cases n with
   | zero=>simp [ads] at h
   | succ n=>simp [ads,z] at h
 | some s=>
  cases s with
  | inr y=>exact ao4 1 (by simp [ads,z])
  | inl x1=>
   show _=aba step x1;cases o:aba step x1 with
   | some y=>obtain ⟨n,h⟩:=ahm o;exact ao4 (n+1) (by simp [ads,z,h])
   | none=>
    cases H:aba step x with
    | none=>rfl
    | some y=>
     obtain ⟨n,h⟩:=ahm H;cases n with
     | zero=>simp [ads] at h
     | succ n=>simp only [ads,z] at h;rw [ao4 n h] at o;cases o
theorem aat {o z:Type}{step:o->Option (o⊕z)}{x x1:o} (h:step x=some (.inl x1)):aba step x=aba step x1:=by rw [aur,h]
theorem aai {o z:Type}{step:o->Option (o⊕z)}{x:o}{y:z} (h:step x=some (.inr y)):aba step x=some y:=by rw [aur,h]
noncomputable def aag {o z:Type} (h:Nat) (step:o->Option (o⊕z)) (x:o):Option z:=
 match h with
 | 0=>aba step x
 | n+1=>ads step (n+1) x
theorem av9 {z H:Type}{o:Nat}{step:z->Option (z⊕H)}{x:z}{y:H} (h:aag o step x=some y):∃ n,ads step n x=some y:=by
 unfold aag at h;split at h
 ·exact ahm h
 ·exact ⟨_,h⟩
theorem adw {h o:Type} (step:h->Option (h⊕o)) (x:h):aag 0 step x=aba step x:=rfl
structure LoopE where
 key:Nat
 H:Frame
 X:List (LEx×Frame)
 step:H.ty->Option (H.ty⊕XTy X)
noncomputable def a7s (P:Program) (h:Nat):List LoopE->(R:Type)->Nat->Env->List BX->(LEx->Env->List BX->Option R)->Option R
 | [],_,_,_,_,_=>none
 | l::r,R,key,e,st,K=>bif Nat.beq l.key key then (l.H.dec P e st).bind λx=>(aag h l.step x).bind λy=>kX l.X y K else a7s P h r R key e st K
def azz {h o:Type} (x:Option h):Option (h⊕o):=match x with | some v=>some (.inl v) | none=>none
def apo {o h:Type} (x:Option h):Option (o⊕h):=match x with | some v=>some (.inr v) | none=>none
def an9 (C:Cfg) (h:Code) (l:LoopE):Prop:=
 ∀ (x:l.H.ty),exec C h { norm:=λe st=>azz (l.H.dec C.P e st),exit:=λi e st=>apo (decX C.P l.X (.exit i) e st),ret:=λe st=>apo (decX C.P l.X .ret e st),pan:=λs st=>apo (decX C.P l.X .pan (λt=>bif Nat.beq t 0 then s else .undef) st) } (l.H.env x) (l.H.st x)=l.step x
theorem asy {C:Cfg} (hC:aam C) {J:Code}{l:LoopE} (hL:∀ b,b∈aay J->LoopOk C b) (ad:Nat.ble C.np l.H.bs.length=true) (hX:npX C.np l.X=true) (aa:an9 C J l):
 ∀ (n:Nat) (x:l.H.ty) (y:XTy l.X),ads l.step n x=some y->at0 C J n (l.H.env x) (l.H.st x) (exX l.X y) (envX l.X y) (stX l.X y):=by
 intro n
 induction n with
 | zero=>intro x y h;simp [ads] at h
 | succ n ih=>
  intro x y h
  have hs:=aa x
  cases hx:l.step x with
  | none=>simp [ads,hx] at h
  | some s=>
   rw [hx] at hs
   refine awa hC hL hs (λe1 ab o hg=>?_) (λi e1 ab o hg=>?_) (λe1 ab o hg=>?_) (λs1 ab o=>?_)
   ·simp only [azz] at o;split at o
    ·rename_i x1 h1;cases o;simp only [ads,hx] at h;intro Γ M Z O Q a w hr ae hQ;exact ih x1 y h Γ M Z O Q a w (Frame.dec_sound M (by rw [O];exact Aw ad) h1 hr) (l.H.noGd x1) hQ
    ·cases o
   ·simp only [apo] at o;split at o
    ·rename_i z I;cases o;simp only [ads,hx,Al] at h;subst h;exact ⟨asf l.X z I,λ Γ a w M Z=>(anm (a:=a) (w:=w) M l.X z (by rw [Z];exact hX) I).2⟩
    ·cases o
   ·simp only [apo] at o;split at o
    ·rename_i z I;cases o;simp only [ads,hx,Al] at h;subst h;exact ⟨asf l.X z I,λ Γ a w M Z=>(anm (a:=a) (w:=w) M l.X z (by rw [Z];exact hX) I).2⟩
    ·cases o
   ·simp only [apo] at o;split at o
    ·rename_i z I;cases o;simp only [ads,hx,Al] at h;subst h;exact ⟨asf l.X z I,λ Γ v a w M Z hp=>(a09 (a:=a) (w:=w) (v0:=v) M l.X z (by rw [Z];exact hX) I).2 hp⟩
    ·cases o
theorem ay6 {C:Cfg} (hC:aam C) {o:Code} (M:Nat) (l:LoopE) (hL:∀ b,b∈aay o->LoopOk C b) (z:(Nat.ble C.np l.H.bs.length&&npX C.np l.X)=true) (J:an9 C o l)
 (O:∀ (R:Type) (e:Env) (st:List BX) (K:LEx->Env->List BX->Option R),C.lam R (ajs o) e st K=(l.H.dec C.P e st).bind λx=>(aag M l.step x).bind λy=>kX l.X y K):LoopOk C o:=by
 simp only [Ai] at z
 refine LoopOk.one λR e st K r h=>?_
 rw [O] at h
 simp only [Bg] at h
 obtain ⟨x,h1,y,Z,h3⟩:=h
 rw [kX_eq] at h3
 obtain ⟨n,Z⟩:=av9 Z
 refine ⟨exX l.X y,envX l.X y,stX l.X y,n,h3,axy _ _,?_⟩
 intro Γ hP hn I Q a w hr hg hQ
 exact asy hC hL z.1 z.2 J n x y Z Γ hP hn I Q a w (Frame.dec_sound hP (by rw [I];exact Aw z.1) h1 hr) (l.H.noGd x) hQ
structure AFrame where
 n:Nat
 bs:List BSh
 sh:List Shape
@[reducible] def AFrame.ty (A:AFrame):Type:=TyL A.sh
def AFrame.args (A:AFrame) (x:A.ty):List SV:=(encL A.sh x).take A.n
def AFrame.st (A:AFrame) (x:A.ty):List BX:=toSt A.bs ((encL A.sh x).drop A.n)
def aho (P:Program) (st:List BX) (bs:List BSh):List SV->List Shape->Option (List SV)
 | [],_=>some []
 | s::ss,sh::shs=>match aiz P st bs sh s,aho P st bs ss shs with | some v,some vs=>some (v::vs) | _,_=>none
 | _::_,[]=>none
def AFrame.get (A:AFrame) (P:Program) (h:List SV) (st:List BX):Option A.ty:=
 bif Nat.beq h.length A.n then
  match aho P st A.bs h A.sh,aeu P st A.bs A.bs st (A.sh.drop A.n) with
  | some z,some o=>getL A.sh (z++o)
  | _,_=>none
 else none
theorem apa {P:Program}{st:List BX}{bs:List BSh}:∀ (z:List SV) (o:List Shape) (I:List SV),aho P st bs z o=some I->I.length=z.length/\∀ (i:Nat) (x:SV),I[i]?=some x->∃ y J,z[i]?=some y/\aiz P st bs J y=some x:=by
 intro z;induction z with
 | nil=>intro o I h;simp [aho] at h;subst h;exact ⟨rfl,λi x H=>by simp at H⟩
 | cons s ss ih=>
  intro o I h;cases o with
  | nil=>simp [aho] at h
  | cons J o=>
   simp only [aho] at h;split at h
   ·rename_i v O Z h2;cases h;obtain ⟨l,hh⟩:=ih o O h2;refine ⟨by simp [l],λi x H=>?_⟩;cases i with
    | zero=>simp at H;subst H;exact ⟨s,J,rfl,Z⟩
    | succ i=>obtain ⟨y,M,h3,h4⟩:=hh i x (by simpa using H);exact ⟨y,M,by simpa using h3,h4⟩
   ·cases h
theorem AFrame.get_spec {P:Program}{A:AFrame}{o:List SV}{st:List BX}{x:A.ty} (h:A.get P o st=some x):o.length=A.n/\StFit P st A.bs A.bs st (A.st x)/\(A.args x).length=o.length/\∀ (i:Nat) (s:SV),(A.args x)[i]?=some s->∃ y sh,o[i]?=some y/\aiz P st A.bs sh y=some s:=by
 unfold AFrame.get at h;cases z:Nat.beq o.length A.n with
 | false=>rw [z] at h;simp at h
 | true=>
  rw [z] at h;have hl:=Aa z;simp only [Af] at h;split at h
  ·rename_i J us Z h2;have H:=aqo _ _ _ h;obtain ⟨l,h4⟩:=apa _ _ _ Z;have h5:=al9 _ _ _ _ h2;have I:J.length=A.n:=by omega
   have M:A.st x=toSt A.bs us:=by unfold AFrame.st;rw [<-H,<-I,List.drop_left]
   have O:A.args x=J:=by unfold AFrame.args;rw [<-H,<-I,List.take_left]
   rw [M,O];exact ⟨hl,h5,l,h4⟩
  ·cases h
theorem Meets.enter {P:Program}{A:AFrame}{f:FuncId}{as:List SV}{st:List BX}{x:A.ty} (h:A.get P as st=some x) (aa:st.length<=A.bs.length) {rs:List SV}{st':List BX} (hm:Meets P f (A.args x) (A.st x) rs st'):Meets P f as st rs st':=by
 obtain ⟨h1,h2,h3,h4⟩:=AFrame.get_spec h;refine ⟨hm.1,λD ow μ w J I=>?_⟩;have ab:Pre P D (owTo ow A.bs.length) μ (A.st x) w (A.args x) J:=by
  refine ⟨by rw [I.size,h3],λi s v hs hv=>?_,I.objs.fit h2,λp z g hg=>?_⟩
  ·obtain ⟨y,sh,hy,hl⟩:=h4 i s hs;exact acz h2 (I.arg i y v hy hv) hl
  ·obtain ⟨q1,M⟩:=I.tabs p z g hg;exact ⟨by simp [owTo,q1],M⟩
 refine (hm.2 D _ μ w J ab).mono λe w' ⟨v,D',he,z⟩=>⟨v,D',he,z.dom,λb o d=>?_,?_,z.os,z.tape,z.output,z.size,λb hb hn=>z.old b hb (by simp [owTo,hn]),z.keeps⟩
 ·rcases z.new b o d with d | d | d
  ·exact Or.inl d
  ·exact Or.inr (Or.inl d)
  ·exact Or.inr (Or.inr (λhn=>d (by simp [owTo,hn])))
 ·obtain ⟨ae,af,hr⟩:=z.rest;refine ⟨ae,af,hr.objs,hr.res,λb k hb H=>(owTo_some.1 (hr.own b k hb H)).1,λk b hk=>?_,λk E g xs ys hk ad=>?_⟩
  ·obtain ⟨b1,q1,M⟩:=h2.kept hk (A5 (List.getElem?_eq_some_iff.1 hk).1 aa);obtain ⟨b2,r1,r2,r3⟩:=hr.keep k b1 q1;exact ⟨b2,r1,r2.trans M,λO Z=>r3 (afe M O) (aqv M Z)⟩
  ·have H:=A5 (List.getElem?_eq_some_iff.1 hk).1 aa;obtain ⟨fl,q1,M⟩:=h2.arrOn hk H;obtain ⟨r1,r2⟩:=hr.same k E fl xs ys q1 ad;exact ⟨r1,r2.from H⟩
theorem Post.leave {P:Program}{A:AFrame}{D:Dom}{w:World}{ow:Own}{μ:Nat->Nat}{st:List BX}{rs:List SV}{s:List BX}{v:Value}{D':Dom}{w':World}{y:A.ty} (h:A.get P rs s=some y) (af:st.length<=A.bs.length) (I:Post P D w ow μ st rs s v D' w'):Post P D w ow μ st (A.args y) (A.st y) v D' w'/\agu (A.args y) v=agu rs v:=by
 obtain ⟨h1,h2,h3,h4⟩:=AFrame.get_spec h;obtain ⟨ag,ah,hr⟩:=I.rest;have aj:∀ s0,rs≠[.pan s0]:=by rintro s0 rfl;obtain ⟨s1,ab⟩:=List.length_eq_one_iff.1 (show (A.args y).length=1 by rw [h3];rfl);obtain ⟨z,sh,hz,o⟩:=h4 0 s1 (by rw [ab];rfl);simp at hz;subst hz;rw [ay7] at o;cases o
 rcases ab4 hr.res with ⟨s0,e,_⟩ | ⟨_,Z,ae⟩
 ·exact absurd e (aj s0)
 have O:SRep P D' w' (owTo ag A.bs.length) ah (A.st y) (ac9 (A.args y)) v:=by
  have H:=Z;by_cases hl:rs.length=1
  ·obtain ⟨s0,rfl⟩:=List.length_eq_one_iff.1 hl;obtain ⟨s1,ab⟩:=List.length_eq_one_iff.1 (show (A.args y).length=1 by omega);rw [ab] at h4 ⊢;obtain ⟨z,sh,hz,o⟩:=h4 0 s1 rfl;simp at hz;subst hz;exact acz h2 H o
  ·have e1:∀ l:List SV,l.length≠1->ac9 l=.tup l:=by
    intro l hl;match l,hl with
    | [],_=>rfl
    | [x],hl=>exact absurd rfl hl
    | x::y::r,_=>rfl
   rw [e1 rs hl] at H;rw [e1 _ (by omega)];cases H with
   | tup hs ad=>refine .tup (by omega) (λi x u hx hu=>?_);obtain ⟨z,sh,hz,o⟩:=h4 i x hx;exact acz h2 (ad i z u hz hu) o
 obtain ⟨aa,J⟩:=ag7 O;refine ⟨⟨I.dom,I.new,?_,I.os,I.tape,I.output,I.size,I.old,I.keeps⟩,J.trans ae.symm⟩;refine ⟨owTo ag A.bs.length,ah,hr.objs.fit h2,aa,λb k hb M=>hr.own b k (owTo_some.1 hb).1 M,λk b hk=>?_,λk E g xs ys hk ai=>?_⟩
 ·obtain ⟨b1,q1,q2,q3⟩:=hr.keep k b hk;obtain ⟨b2,r1,r2⟩:=h2.kept q1 (A5 (List.getElem?_eq_some_iff.1 hk).1 af);exact ⟨b2,r1,r2.trans q2,q3⟩
 ·have M:=A5 (List.getElem?_eq_some_iff.1 hk).1 af;obtain ⟨b1,p1,p2,_⟩:=hr.keep k _ hk;obtain ⟨g1,q1,q2⟩:=h2.arrBack ai (List.getElem?_eq_some_iff.1 p1).1;have:=q2 rfl;subst this;obtain ⟨r1,r2⟩:=hr.same k E g xs ys hk q1;exact ⟨r1,r2.to M⟩
theorem Post.leaveP {P:Program}{A:AFrame}{D:Dom}{w:World}{ow:Own}{μ:Nat->Nat}{st:List BX}{s0:SV}{s:List BX}{v:Value}{D':Dom}{w':World}{y:A.ty} (h:A.get P [s0] s=some y) (M:st.length<=A.bs.length) (o:Post P D w ow μ st [.pan s0] s v D' w'):Post P D w ow μ st [.pan ((A.args y).headD .undef)] (A.st y) v D' w':=by
 obtain ⟨h1,Z,h3,h4⟩:=AFrame.get_spec h;obtain ⟨ad,ae,J⟩:=o.rest;refine ⟨o.dom,o.new,?_,o.os,o.tape,o.output,o.size,o.old,o.keeps⟩;obtain ⟨s1,O⟩:=List.length_eq_one_iff.1 (show (A.args y).length=1 by rw [h3];rfl);obtain ⟨z,sh,hz,ab⟩:=h4 0 s1 (by rw [O];rfl);simp at hz;subst hz;rw [O];refine ⟨owTo ad A.bs.length,ae,J.objs.fit Z,acz Z J.res ab,λb k hb H=>J.own b k (owTo_some.1 hb).1 H,λk b I=>?_,λk E g xs ys I aa=>?_⟩
 ·obtain ⟨b1,q1,q2,q3⟩:=J.keep k b I;obtain ⟨b2,r1,r2⟩:=Z.kept q1 (A5 (List.getElem?_eq_some_iff.1 I).1 M);exact ⟨b2,r1,r2.trans q2,q3⟩
 ·have H:=A5 (List.getElem?_eq_some_iff.1 I).1 M;obtain ⟨b1,p1,p2,_⟩:=J.keep k _ I;obtain ⟨g1,q1,q2⟩:=Z.arrBack aa (List.getElem?_eq_some_iff.1 p1).1;have:=q2 rfl;subst this;obtain ⟨r1,r2⟩:=J.same k E g xs ys I q1;exact ⟨r1,r2.to H⟩
structure CallE where
 f:FuncId
 A:AFrame
 R:AFrame
 F:A.ty->Option R.ty
 dflt:R.ty
def CallE.Ok (P:Program) (c:CallE):Prop:=∀ (x:c.A.ty) (y:c.R.ty),c.F x=some y->Meets P c.f (c.A.args x) (c.A.st x) (c.R.args y) (c.R.st y)
structure CallP where
 f:FuncId
 A:AFrame
 R:AFrame
 X:AFrame
 F:A.ty->Option (R.ty⊕X.ty)
 dflt:R.ty
def CallP.Ok (P:Program) (c:CallP):Prop:=∀ (x:c.A.ty),(∀ (y:c.R.ty),c.F x=some (.inl y)->Meets P c.f (c.A.args x) (c.A.st x) (c.R.args y) (c.R.st y))/\∀ (y:c.X.ty),c.F x=some (.inr y)->Meets P c.f (c.A.args x) (c.A.st x) [.pan ((c.X.args y).headD .undef)] (c.X.st y)
def avg (P:Program):List CallP->(R:Type)->Bool->FuncId->List SV->List BX->(List SV->List BX->Option R)->Option R
 | [],_,_,_,_,_,_=>none
 | c::r,R,b,f,as,st,K=>
  bif Nat.beq c.f f&&Nat.ble st.length c.A.bs.length then
   match c.A.get P as st with
   | some x=>(bif b then c.F x else some (.inl c.dflt)).bind λy=>sumE (λy=>K (c.R.args y) (c.R.st y)) (λy=>K [.pan ((c.X.args y).headD .undef)] (c.X.st y)) y
   | none=>avg P r R b f as st K
  else avg P r R b f as st K
def ap7 (P:Program) (h:List CallP):List CallE->(R:Type)->Bool->FuncId->List SV->List BX->(List SV->List BX->Option R)->Option R
 | [],R,b,f,as,st,K=>avg P h R b f as st K
 | c::r,R,b,f,as,st,K=>
  bif Nat.beq c.f f&&Nat.ble st.length c.A.bs.length then
   match c.A.get P as st with
   | some x=>(bif b then c.F x else some c.dflt).bind λy=>K (c.R.args y) (c.R.st y)
   | none=>ap7 P h r R b f as st K
  else ap7 P h r R b f as st K
theorem a0z {P:Program}:∀ (cs:List CallP),(∀ c,c∈cs->c.Ok P)->∀ (R:Type) (b:Bool) (f:FuncId) (z:List SV) (st:List BX) (K:List SV->List BX->Option R) (r:R),avg P cs R b f z st K=some r->
 (b=true->∃ M st',K M st'=some r/\Meets P f z st M st')/\∃ M st',K M st'=some r:=by
 intro cs
 induction cs with
 | nil=>intro _ R b f z st K r h;simp [avg] at h
 | cons c cs ih=>
  intro H R b f z st K r h
  have I:=ih (λc hc=>H c (List.mem_cons_of_mem _ hc)) R b f z st K r
  simp only [avg] at h
  cases o:(Nat.beq c.f f&&Nat.ble st.length c.A.bs.length) with
  | false=>rw [o] at h;exact I h
  | true=>
   rw [o] at h
   simp only [Ai] at o
   have:=Aa o.1;subst this
   simp only [Af] at h
   split at h
   ·rename_i x hx;cases b with
    | true=>
     simp only [Af,Bg] at h;obtain ⟨y,O,J⟩:=h;have Z:=H c (by simp) x;cases y with
     | inl y=>exact ⟨λ_=>⟨_,_,J,Meets.enter hx (Aw o.2) (Z.1 y O)⟩,_,_,J⟩
     | inr y=>exact ⟨λ_=>⟨_,_,J,Meets.enter hx (Aw o.2) (Z.2 y O)⟩,_,_,J⟩
    | false=>simp only [Ah,Ae] at h;exact ⟨λh=>absurd h (by decide),_,_,h⟩
   ·exact I h
theorem axq {C:Cfg}{O:List CallP} (M:∀ c,c∈O->c.Ok C.P):∀ (cs:List CallE),(∀ c,c∈cs->c.Ok C.P)->∀ (R:Type) (b:Bool) (f:FuncId) (o:List SV) (st:List BX) (K:List SV->List BX->Option R) (r:R),ap7 C.P O cs R b f o st K=some r->
 (b=true->∃ J st',K J st'=some r/\Meets C.P f o st J st')/\∃ J st',K J st'=some r:=by
 intro cs
 induction cs with
 | nil=>intro _ R b f o st K r h;exact a0z O M R b f o st K r h
 | cons c cs ih=>
  intro H R b f o st K r h
  have I:=ih (λc hc=>H c (List.mem_cons_of_mem _ hc)) R b f o st K r
  simp only [ap7] at h
  cases z:(Nat.beq c.f f&&Nat.ble st.length c.A.bs.length) with
  | false=>rw [z] at h;exact I h
  | true=>
   rw [z] at h
   simp only [Ai] at z
   have:=Aa z.1;subst this
   simp only [Af] at h
   split at h
   ·rename_i x hx;cases b with
    | true=>simp only [Af,Bg] at h;obtain ⟨y,h1,Z⟩:=h;refine ⟨λ_=>⟨_,_,Z,?_⟩,_,_,Z⟩;exact Meets.enter hx (Aw z.2) (H c (by simp) x y h1)
    | false=>simp only [Ah,Ae] at h;exact ⟨λh=>absurd h (by decide),_,_,h⟩
   ·exact I h
@[reducible] noncomputable def cfg (P:Program) (n np:Nat) (h:List CallE) (o:List LoopE) (z:Nat) (H:List CallP:=[]) (own:Bool:=false):Cfg:=
 { P:=P,own:=own,n:=n,np:=np,call:=ap7 P H h,lam:=a7s P z o }
theorem aad {P:Program}{n np:Nat}{o:List CallE}{z:List LoopE}{H:Nat}{I:List CallP}{own:Bool} (h:∀ c,c∈o->c.Ok P) (M:∀ c,c∈I->c.Ok P):aam (cfg P n np o z H I own):=
 λR b f J st K r O=>axq (C:=cfg P n np o z H I own) M o h R b f J st K r O
theorem a3u {P:Program}:∀ c,c∈([]:List CallP)->c.Ok P:=λc h=>by cases h
theorem callpC {P:Program}{c:CallP}{cs:List CallP} (h:c.Ok P) (z:∀ c,c∈cs->c.Ok P):∀ d,d∈c::cs->d.Ok P:=by
 intro d o;rcases Bl.1 o with rfl | o
 ·exact h
 ·exact z d o
theorem a6v {P:Program}{n np:Nat}{o:List CallE}{z:List LoopE}{H:Nat} (h:∀ c,c∈o->c.Ok P):aam (cfg P n np o z H):=aad h a3u
def lp (c:Code) (i:Nat):Code:=(aay c).getD i .skip
def aaj (fn:Func):Code:=match fn.body with | some c=>c | none=>.skip
theorem a7v {C:Cfg}{c:Code} (h:(aay c).length=0):∀ b,b∈aay c->LoopOk C b:=by
 intro b o;cases z:aay c with
 | nil=>rw [z] at o;cases o
 | cons x r=>rw [z] at h;cases h
theorem ant {C:Cfg}{c:Code} (n:Nat) (h:(aay c).length=n) (H:∀ i,i<n->LoopOk C (lp c i)):∀ b,b∈aay c->LoopOk C b:=by intro b z;obtain ⟨i,o,rfl⟩:=List.mem_iff_getElem.1 z;have:=H i (by omega);unfold lp at this;rwa [List.getD_eq_getElem?_getD,Aq o] at this
theorem loopCut {C:Cfg}{o:Code} (h:∀ (R:Type) (e:Env) (st:List BX) (K:LEx->Env->List BX->Option R),C.lam R (ajs o) e st K=none):LoopOk C o:=λR e st K r z=>by rw [h] at z;cases z
theorem a7e {P:Program}:∀ c,c∈([]:List CallE)->c.Ok P:=λc h=>by cases h
theorem a7d {P:Program}{c:CallE}{cs:List CallE} (h:c.Ok P) (z:∀ c,c∈cs->c.Ok P):∀ d,d∈c::cs->d.Ok P:=by
 intro d o;rcases Bl.1 o with rfl | o
 ·exact h
 ·exact z d o
theorem aut {C:Cfg} (J:aam C) {f:FuncId}{fn:Func}{c:Code} (hf:C.P.funcs[f]?=some fn) (Z:fn.body=some c) (hn:fn.ntmps=C.n) (z:(fn.name== "runtime.NumGoroutine")=false) (O:∀ o,o∈aay c->LoopOk C o)
 {A R:AFrame}{F:A.ty->Option R.ty} (M:∀ x,avn C fn (A.args x) (A.st x) (R.get C.P)=F x) (H:∀ x,(Nat.ble (A.args x).length C.n&&Nat.beq (A.st x).length C.np&&Nat.ble (A.st x).length R.bs.length)=true) (x:A.ty) (y:R.ty) (h:F x=some y):
 Meets C.P f (A.args x) (A.st x) (R.args y) (R.st y):=by
 have I:=H x
 simp only [Ai] at I
 exact ah9 J hf Z hn z O (r:=y) ((M x).trans h) (Aw I.1.1) (Aa I.1.2) (λrs s hk D w ow μ v D' w' hp=>hp.leave hk (Aw I.2))
def getP (P:Program) (R X:AFrame) (h:List SV) (st:List BX):Option (R.ty⊕X.ty):=fork h (azz (R.get P h st)) (λs=>apo (X.get P [s] st))
theorem a7z {C:Cfg} (hC:aam C) {f:FuncId}{fn:Func}{c:Code} (hf:C.P.funcs[f]?=some fn) (hb:fn.body=some c) (hn:fn.ntmps=C.n) (H:(fn.name== "runtime.NumGoroutine")=false) (hL:∀ I,I∈aay c->LoopOk C I)
 {A R X:AFrame}{F:A.ty->Option (R.ty⊕X.ty)} (hF:∀ x,avn C fn (A.args x) (A.st x) (getP C.P R X)=F x) (O:∀ x,(Nat.ble (A.args x).length C.n&&Nat.beq (A.st x).length C.np&&Nat.ble (A.st x).length R.bs.length&&Nat.ble (A.st x).length X.bs.length)=true) (x:A.ty):
 (∀ (y:R.ty),F x=some (.inl y)->Meets C.P f (A.args x) (A.st x) (R.args y) (R.st y))/\∀ (y:X.ty),F x=some (.inr y)->Meets C.P f (A.args x) (A.st x) [.pan ((X.args y).headD .undef)] (X.st y):=by
 have M:=O x
 simp only [Ai] at M
 refine ⟨λy h=>ah9 hC hf hb hn H hL (r:=.inl y) ((hF x).trans h) (Aw M.1.1.1) (Aa M.1.1.2) (λrs s o D w ow μ v D' w' Z=>?_),λy h=>ah9 hC hf hb hn H hL (r:=.inr y) ((hF x).trans h) (Aw M.1.1.1) (Aa M.1.1.2) (λrs s o D w ow μ v D' w' Z=>?_)⟩
 ·unfold getP at o;have J:=ad5 o;clear o;rcases J with ⟨s0,rfl,o⟩ | ⟨_,o⟩
  ·simp only [apo] at o;split at o<;>cases o
  ·simp only [azz] at o;split at o
   ·rename_i z hz;cases o;exact Z.leave hz (Aw M.1.2)
   ·cases o
 ·unfold getP at o;have J:=ad5 o;clear o;rcases J with ⟨s0,rfl,o⟩ | ⟨_,o⟩
  ·simp only [apo] at o;split at o
   ·rename_i z hz;cases o;exact ⟨Z.leaveP hz (Aw M.2),rfl⟩
   ·cases o
  ·simp only [azz] at o;split at o<;>cases o
end Go.Ab
namespace Go.Ab
open Go
set_option maxRecDepth 100000
def isT (o:Option Bool):Bool:=match o with | some true=>true | _=>false
theorem a1s {o:Option Bool} (h:isT o=true):o=some true:=by
 unfold isT at h;split at h
 ·rfl
 ·cases h
noncomputable def limQ {z H:Type} (o:Nat) (G:Nat->z->Option H) (x:z):Option H:=
 match o with
 | 0=>open Classical in if h:∃ y,∃ N,∀ n,N<=n->G n x=some y then some (Classical.choose h) else none
 | n+1=>G (n+1) x
theorem ayz {z H:Type}{o:Nat}{G:Nat->z->Option H}{x:z}{y:H} (h:limQ o G x=some y):∃ n,G n x=some y:=by
 unfold limQ at h;split at h
 ·split at h
  ·rename_i J;cases h;obtain ⟨N,I⟩:=Classical.choose_spec J;exact ⟨N,I N (Nat.le_refl _)⟩
  ·cases h
 ·exact ⟨_,h⟩
theorem av7 {z H:Type}{G:Nat->z->Option H}{x:z}{y:H} (N:Nat) (h:∀ n,N<=n->G n x=some y):limQ 0 G x=some y:=by have o:∃ y,∃ N,∀ n,N<=n->G n x=some y:=⟨y,N,h⟩;unfold limQ;simp only [o,dif_pos];obtain ⟨M,I⟩:=Classical.choose_spec o;rw [<-I (max N M) (Nat.le_max_right _ _),h (max N M) (Nat.le_max_left _ _)]
theorem a8c {P:Program} (E:CallE) {o:Nat}{G:Nat->E.A.ty->Option E.R.ty} (H:∀ x,E.F x=limQ o G x) (h:∀ n,CallE.Ok P ⟨E.f,E.A,E.R,G n,E.dflt⟩):E.Ok P:=by intro x y z;rw [H] at z;obtain ⟨n,I⟩:=ayz z;exact h n x y I
theorem a4j {P:Program}{f:FuncId}{A R:AFrame}{d:R.ty}:CallE.Ok P ⟨f,A,R,λ_=>none,d⟩:=λx y h=>by cases h
theorem okE {P:Program}{E:CallE}{C:Cfg} (fn:Func) (H:aam C) (J:∀ b,b∈aay (aaj fn)->LoopOk C b) (M:C.P=P:=by kernel_rfl) (Z:C.P.funcs[E.f]?=some fn:=by kernel_rfl) (O:fn.body=some (aaj fn):=by kernel_rfl)
 (hn:fn.ntmps=C.n:=by kernel_rfl) (o:(fn.name== "runtime.NumGoroutine")=false:=by kernel_rfl) (I:∀ x,avn C fn (E.A.args x) (E.A.st x) (E.R.get C.P)=E.F x:=by intro x;kernel_rfl)
 (z:∀ x,(Nat.ble (E.A.args x).length C.n&&Nat.beq (E.A.st x).length C.np&&Nat.ble (E.A.st x).length E.R.bs.length)=true:=by intro x;kernel_rfl):E.Ok P:=by
 subst M
 exact λx y h=>aut H Z O hn o J I z x y h
theorem okL {C:Cfg} (M:aam C) {h:Code} (o:Nat) (l:LoopE) (O:∀ b,b∈aay h->LoopOk C b) (J:(Nat.ble C.np l.H.bs.length&&npX C.np l.X)=true:=by kernel_rfl) (z:an9 C h l:=by intro x;kernel_rfl)
 (I:∀ (R:Type) (e:Env) (st:List BX) (K:LEx->Env->List BX->Option R),C.lam R (ajs h) e st K=(l.H.dec C.P e st).bind λx=>(aag o l.step x).bind λy=>kX l.X y K:=by intro R e st K;kernel_rfl):LoopOk C h:=ay6 M o l O J z I
theorem q0 {P:Program}:∀ c,c∈([]:List CallE)->c.Ok P:=a7e
theorem qc {P:Program}{c:CallE}{cs:List CallE} (h:c.Ok P) (o:∀ c,c∈cs->c.Ok P):∀ d,d∈c::cs->d.Ok P:=a7d h o
theorem L0 {C:Cfg}{c:Code} (h:(aay c).length=0:=by kernel_rfl):∀ b,b∈aay c->LoopOk C b:=a7v h
theorem L1 {C:Cfg}{c:Code} (a:LoopOk C (lp c 0)) (h:(aay c).length=1:=by kernel_rfl):∀ b,b∈aay c->LoopOk C b:=ant 1 h λi o=>by
 match i,o with
 | 0,_=>exact a
theorem L2 {C:Cfg}{c:Code} (a:LoopOk C (lp c 0)) (b:LoopOk C (lp c 1)) (h:(aay c).length=2:=by kernel_rfl):∀ b,b∈aay c->LoopOk C b:=ant 2 h λi o=>by
 match i,o with
 | 0,_=>exact a
 | 1,_=>exact b
theorem L3 {C:Cfg}{c:Code} (a:LoopOk C (lp c 0)) (b:LoopOk C (lp c 1)) (d:LoopOk C (lp c 2)) (h:(aay c).length=3:=by kernel_rfl):∀ b,b∈aay c->LoopOk C b:=ant 3 h λi o=>by
 match i,o with
 | 0,_=>exact a
 | 1,_=>exact b
 | 2,_=>exact d
theorem L4 {C:Cfg}{c:Code} (a:LoopOk C (lp c 0)) (b:LoopOk C (lp c 1)) (d:LoopOk C (lp c 2)) (e:LoopOk C (lp c 3)) (h:(aay c).length=4:=by kernel_rfl):∀ b,b∈aay c->LoopOk C b:=ant 4 h λi o=>by
 match i,o with
 | 0,_=>exact a
 | 1,_=>exact b
 | 2,_=>exact d
 | 3,_=>exact e
theorem p0 {P:Program}:∀ c,c∈([]:List CallP)->c.Ok P:=a3u
theorem okJ {P:Program}{E:CallE} (fn:Func) (n np z:Nat) (o:List CallE) (J:List CallP) (own:Bool) (h:∀ c,c∈o->c.Ok P) (hp:∀ c,c∈J->c.Ok P) (Z:∀ b,b∈aay (aaj fn)->LoopOk (cfg P n np o [] z J own) b) (hf:P.funcs[E.f]?=some fn:=by kernel_rfl) (hb:fn.body=some (aaj fn):=by kernel_rfl)
 (hn:fn.ntmps=n:=by kernel_rfl) (H:(fn.name== "runtime.NumGoroutine")=false:=by kernel_rfl) (O:∀ x,avn (cfg P n np o [] z J own) fn (E.A.args x) (E.A.st x) (E.R.get P)=E.F x:=by intro x;kernel_rfl)
 (I:∀ x,(Nat.ble (E.A.args x).length n&&Nat.beq (E.A.st x).length np&&Nat.ble (E.A.st x).length E.R.bs.length)=true:=by intro x;kernel_rfl):E.Ok P:=λx y M=>aut (aad h hp) hf hb hn H Z O I x y M
theorem as0 {P:Program}{f:FuncId}{E:TypeId}{xs:List PV} (h0:xs=[]->Meets P f [.nils] [] [.nils] []) (h1:Meets P f [.sln E xs] [] [.arr 0 1 E] [.arr E 1 xs]):Meets P f [.slice E xs] [] [.arr 0 1 E] [.arr E 1 xs]:=by
 refine ⟨h1.1,λD ow μ w I H=>?_⟩;obtain ⟨v,rfl⟩:∃ v,I=#[v]:=by
  have:=H.size;match I,this with
  | ⟨[a]⟩,_=>exact ⟨a,rfl⟩
 have O:=H.arg 0 _ v rfl rfl;have J:∀ {s:SV},SRep P D w ow μ [] s v->Pre P D ow μ [] w [s] #[v]:=λ{s} h=>⟨rfl,λi s' v' Z hv=>by
  match i,Z,hv with
  | 0,Z,hv=>simp at Z hv;subst Z;subst hv;exact h,H.objs,H.tabs⟩
 cases O with
 | slice O=>
  have hd:v=.slice none 0 0/\xs=[]\/∃ a n c,v=.slice (some a) n c:=by
   cases O with
   | @nil a c aa=>cases a with
    | none=>have:=aa rfl;subst this;exact Or.inl ⟨rfl,rfl⟩
    | some a=>exact Or.inr ⟨a,_,_,rfl⟩
   | mk=>exact Or.inr ⟨_,_,_,rfl⟩
  rcases hd with ⟨rfl,rfl⟩ | ⟨a,n,c,rfl⟩
  ·refine ((h0 rfl).2 D ow μ w _ (J .nils)).mono λe w' he=>?_;obtain ⟨v',D',rfl,z⟩:=he;obtain ⟨ab,ad,M⟩:=z.rest;refine ⟨v',D',rfl,z.dom,z.new,⟨ab,ad,⟨λk b e=>?_,λb k o=>?_,M.objs.dlt,λb k x o e hx q=>?_⟩,?_,M.own,λk b e=>by simp at e,λk E g xs ys e=>by simp at e⟩,z.os,z.tape,z.output,z.size,z.old,z.keeps⟩
   ·match k,e with
    | 0,e=>simp at e;subst e;exact Or.inl rfl
   ·have:=(M.objs.owlt b k o).2;simp at this
   ·have:=(M.objs.owlt b k o).2;simp at this
   ·have hr:=M.res;simp only [agn,ac9] at hr ⊢;cases hr;exact .arrNil rfl
  ·exact h1.2 D ow μ w _ (J (.sln O))
end Go.Ab
