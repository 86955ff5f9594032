/- Loops by steps, calls by entries. -/
import Derived.Test.YtodichgnoiaanaaGreatAbFrame
import Derived.KernelRfl
import Derived.Maps.RangeRun
set_option linter.unusedVariables false
set_option linter.unusedSimpArgs false
set_option linter.unnecessarySimpa false
namespace Go.Ab
open Go
section
variable {Γ:Ctx}{D:Dom}{ow:Own}{μ:Nat->Nat}{st st':List BX}{bs:List BSh}{w:World}{P:Program}
theorem aiz {s:SV}{v:Value} (f:StFit P st bs bs st st') (h:SRep P D w ow μ st s v) (hk:akc bs s=true):SRep P D w (owTo ow bs.length) μ st' s v:=by
 unfold akc at hk
 split at hk
 ·rename_i k p T
  unfold a6o at hk
  split at hk
  ·rename_i T' p' hb
   obtain ⟨s,vs,rest,shs,shs',h1,h2,h3⟩:=f.box _ _ _ hb
   cases h with
   | ref h4 h5=>
    rw [h1] at h4;cases h4
    exact .ref h3 h5
  ·cases hk
 ·rename_i k
  unfold a7c at hk
  split at hk
  ·rename_i K E hb
   obtain ⟨es,h1,h2⟩:=f.map _ _ _ hb
   cases h with
   | mref h4=>
    rw [h1] at h4;cases h4
    exact .mref h2
  ·cases hk
 ·rename_i k
  unfold a7e at hk
  split at hk
  ·rename_i K E hb
   obtain ⟨es,h1,h2⟩:=f.mit _ _ _ hb
   cases h with
   | mitr h4=>exact .mitr h1
  ·cases hk
 ·rename_i k
  unfold a4b at hk
  split at hk
  ·rename_i hb
   obtain ⟨s0,p0,h1,h2⟩:=f.iter _ hb
   cases h with
   | iref h4=>exact .iref h2
  ·cases hk
 ·rename_i k T
  unfold a6n at hk
  split at hk
  ·rename_i T' hb
   obtain ⟨s0,h1,h2⟩:=f.bld _ _ hb
   cases h with
   | bref h4=>exact .bref h2
  ·cases hk
 ·cases h;exact .nils
 ·cases hk
theorem an4 {k fl:Nat}{E:TypeId} (h:an3 bs k fl E=true):bs[k]?=some (.arr E fl)/\k<bs.length:=by
 unfold an3 at h
 split at h
 ·rename_i E' fl' hb
  simp only [Bool.and_eq_true] at h
  have:=Nat.eq_of_beq_eq_true h.1;subst this
  have:=Nat.eq_of_beq_eq_true h.2;subst this
  exact ⟨hb,(List.getElem?_eq_some_iff.1 hb).1⟩
 ·cases h
theorem arm {k k' g fl:Nat}{E E':TypeId}{v:Value} (f:StFit P st bs bs st st') (h:SRep P D w ow μ st (.arr k' g E') v) (hb:(Nat.beq k k'&&Nat.beq E E'&&adv st k g&&an3 bs k fl E)=true):SRep P D w (owTo ow bs.length) μ st' (.arr k fl E) v:=by
 simp only [Bool.and_eq_true] at hb
 obtain ⟨⟨⟨h1,h2⟩,h3⟩,h4⟩:=hb
 have:=Nat.eq_of_beq_eq_true h1;subst this
 have:=Nat.eq_of_beq_eq_true h2;subst this
 obtain ⟨hb1,hb2⟩:=an4 h4
 obtain ⟨xs,q1,q2⟩:=f.arr k E fl hb1
 have hcur:∀ {E':TypeId}{g0:Nat}{ys:List PV},st[k]?=some (.arr E' g0 ys)->g=g0:=by
  intro E' g0 ys h
  unfold adv at h3
  rw [h] at h3
  exact Nat.eq_of_beq_eq_true h3
 have hx:∀ {E':TypeId}{g0:Nat}{ys:List PV},st[k]?=some (.arr E' g0 ys)->ys=xs:=by
  intro E' g0 ys h
  rcases q2 with ⟨g1,q2,_⟩ | ⟨q2,_⟩
  ·rw [h] at q2;cases q2;rfl
  ·have:=(List.getElem?_eq_some_iff.1 h).1;omega
 cases h with
 | arrOld hk hlt=>have:=hcur hk;omega
 | arrNil hk=>have:=hx hk;subst this;exact .arrNil q1
 | arr hk hl' hmx hc ho hs=>have:=hx hk;subst this;exact .arr q1 hl' hmx hc (owTo_some.2 ⟨ho,hb2⟩) hs
theorem acz {sh:Shape}{s s':SV}{v:Value} (f:StFit P st bs bs st st') (h:SRep P D w ow μ st s v) (hl:ai3 P st bs sh s=some s'):SRep P D w (owTo ow bs.length) μ st' s' v:=by
 have hacc:∀ k,a1s bs k=true->bs[k]?=some .acc/\k<bs.length:=by
  intro k hk
  unfold a1s at hk
  split at hk
  ·rename_i hb;exact ⟨hb,(List.getElem?_eq_some_iff.1 hb).1⟩
  ·cases hk
 unfold ai3 at hl
 split at hl
 ·rename_i k E
  split at hl
  ·rename_i k' g E' xs
   obtain ⟨hb,rfl⟩:=abk hl
   simp only [Bool.and_eq_true] at hb
   obtain ⟨⟨⟨h1,h2⟩,h3⟩,h4⟩:=hb
   have:=Nat.eq_of_beq_eq_true h1;subst this
   have:=Nat.eq_of_beq_eq_true h2;subst this
   obtain ⟨hb1,hb2⟩:=hacc _ h4
   cases h with
   | @acc _ _ g0 _ _ _ hr hk hg ho=>
    refine .acc hr (f.acc _ hb1).1 (Nat.le_refl _) (fun _=>?_)
    have hgg:g=g0:=by
     unfold ana at h3
     rw [hk] at h3
     exact Nat.eq_of_beq_eq_true h3
    rcases ho hgg with ho | ⟨b,cap,cur,q1,q2,q3,q4,q5,q6,q7⟩
    ·exact Or.inl ho
    ·exact Or.inr ⟨b,cap,cur,q1,q2,q3,q4,q5,owTo_some.2 ⟨q6,hb2⟩,q7⟩
  ·obtain ⟨hb,rfl⟩:=abk hl
   obtain ⟨hb1,hb2⟩:=hacc _ hb
   cases h
   exact .acc (.nil fun _=>rfl) (f.acc _ hb1).1 (Nat.le_refl _) (fun _=>Or.inl rfl)
  ·cases hl
 ·split at hl
  ·cases hl;cases h;exact .slice (.nil fun _=>rfl)
  ·exact ab7 h hl _ _ _
 ·split at hl
  ·rename_i k fl E
   split at hl
   ·rename_i k' g E'
    obtain ⟨hb,rfl⟩:=abk hl
    exact arm f h hb
   ·obtain ⟨hb,rfl⟩:=abk hl
    simp only [Bool.and_eq_true] at hb
    obtain ⟨hb1,hb2⟩:=an4 hb.1
    obtain ⟨xs,q1,q2⟩:=f.arr k E fl hb1
    have hle:=Nat.le_of_ble_eq_true hb.2
    rcases q2 with ⟨g1,q2,_⟩ | ⟨_,q3⟩
    ·have:=(List.getElem?_eq_some_iff.1 q2).1;omega
    ·subst q3
     cases h
     exact .arrNil q1
   ·cases hl
  ·split at hl
   ·obtain ⟨hb,rfl⟩:=abk hl
    rw [Bool.and_eq_true] at hb
    have:=Nat.eq_of_beq_eq_true hb.1;subst this
    cases h with
    | ifc h=>exact .ifc (arm f h hb.2)
   ·cases hl
  ·obtain ⟨hb,rfl⟩:=abk hl
   unfold apk at hb
   split at hb
   ·rename_i fn n cs
    cases h with
    | fn h0 h1 h2=>
     refine .fn h0 h1 (fun i s v hi hv=>?_)
     exact aiz f (h2 i s v hi hv) (List.all_eq_true.1 hb s (List.mem_of_getElem? hi))
   ·exact aiz f h hb
 ·split at hl
  ·rename_i T x
   split at hl
   ·rename_i y hy
    cases hl
    cases h with
    | ifc h=>exact .ifc (ab7 h hy _ _ _)
   ·cases hl
  ·cases hl
 ·split at hl
  ·cases hl
   cases h with
   | ifc h=>
    cases h
    exact .ifc (.slice (.nil fun _=>rfl))
  ·split at hl
   ·rename_i y hy
    cases hl
    cases h with
    | ifc h=>exact .ifc (ab7 h hy _ _ _)
   ·cases hl
  ·cases hl
 ·exact ab7 h hl _ _ _
theorem a0d {sh:Shape}{s:SV}:ai3 P st bs sh (.pan s)=none:=by
 cases sh with
 | con c=>cases c<;>simp [ai3,apk,akc];split<;>rfl
 | _=>simp [ai3,ain]
mutual
theorem akp (f:StFit P st bs bs st st'):∀ (p:Pat) (s:SV) (shs:List Shape) (vs:List SV) (shs':List Shape) (rest:List SV) (v:Value),af6 P st bs p s shs=some (vs,shs')->SRep P D w ow μ st s v->SRep P D w (owTo ow bs.length) μ st' (p.build (vs++rest)).1 v
 | .leaf,s,sh::shs,vs,shs',rest,v,h,hs=>by
  simp only [af6] at h
  split at h
  ·rename_i x hx
   simp only [Option.some.injEq,Prod.mk.injEq] at h;obtain ⟨rfl,rfl⟩:=h
   exact acz f hs hx
  ·cases h
 | .leaf,s,[],vs,shs',rest,v,h,hs=>by simp [af6] at h
 | .agg T ps,s,shs,vs,shs',rest,v,h,hs=>by
  simp only [af6] at h
  split at h
  ·rename_i fs hf
   have hs2:=aj6 hs hf
   obtain ⟨h1,h2⟩:=ai5 f ps fs shs vs shs' rest h
   cases hs2 with
   | agg hT hl ho hv hp=>
    refine .agg hT hl ho (by rw [<-hv];exact h1) (fun i x fd hx hfd=>?_)
    exact h2 i x _ hx (fun y hy=>hp i y fd hy hfd)
  ·cases h
theorem ai5 (f:StFit P st bs bs st st'):∀ (ps:List Pat) (ss:List SV) (shs:List Shape) (vs:List SV) (shs':List Shape) (rest:List SV),aeb P st bs ps ss shs=some (vs,shs')->
 (ahs ps (vs++rest)).1.length=ss.length/\∀ (i:Nat) (x:SV) (u:Value),(ahs ps (vs++rest)).1[i]?=some x->(∀ y,ss[i]?=some y->SRep P D w ow μ st y u)->SRep P D w (owTo ow bs.length) μ st' x u
 | [],[],shs,vs,shs',rest,h=>by
  refine ⟨rfl,fun i x u hx=>?_⟩
  simp [ahs] at hx
 | [],_::_,shs,vs,shs',rest,h=>by simp [aeb] at h
 | _::_,[],shs,vs,shs',rest,h=>by simp [aeb] at h
 | p::ps,s::ss,shs,vs,shs',rest,h=>by
  simp only [aeb] at h
  split at h
  ·rename_i vs1 shs1 h1
   split at h
   ·rename_i ws shs2 h2
    simp only [Option.some.injEq,Prod.mk.injEq] at h;obtain ⟨rfl,rfl⟩:=h
    have hb:=ago p s shs vs1 shs1 (ws++rest) h1
    obtain ⟨l1,l2⟩:=ai5 f ps ss shs1 ws _ rest h2
    simp only [ahs,List.append_assoc]
    rw [hb]
    refine ⟨by simp [l1],fun i x u hx hy=>?_⟩
    cases i with
    | zero=>
     simp at hx;subst hx
     exact akp f p s shs vs1 shs1 (ws++rest) u h1 (hy s (by simp))
    | succ i=>exact l2 i x u (by simpa using hx) (fun y h=>hy y (by simpa using h))
   ·cases h
  ·cases h
end
theorem StFit.kind (f:StFit P st bs bs st st') {k:Nat}{b:BX} (hk:st'[k]?=some b):(∃ b0,st[k]?=some b0/\b.kind=b0.kind)∨(st.length<=k):=by
 have hlt:k<bs.length:=by rw [<-f.len];exact (List.getElem?_eq_some_iff.1 hk).1
 have hc:bs[k]?=some bs[k]:=List.getElem?_eq_getElem hlt
 generalize bs[k]=c at hc
 cases c with
 | acc=>
  obtain ⟨h1,h2⟩:=f.acc k hc
  rw [hk] at h1;cases h1
  rcases h2 with ⟨g,h2⟩ | h2
  ·exact Or.inl ⟨_,h2,rfl⟩
  ·exact Or.inr h2
 | box T p=>obtain ⟨s,vs,rest,shs,shs',h1,h2,h3⟩:=f.box k T p hc;rw [hk] at h3;cases h3;exact Or.inl ⟨_,h1,rfl⟩
 | map K E=>obtain ⟨es,h1,h2⟩:=f.map k K E hc;rw [hk] at h2;cases h2;exact Or.inl ⟨_,h1,rfl⟩
 | mit K E=>obtain ⟨es,h1,c,h2⟩:=f.mit k K E hc;rw [hk] at h1;cases h1;exact Or.inl ⟨_,h2,rfl⟩
 | iter=>obtain ⟨s,p,h1,h2⟩:=f.iter k hc;rw [hk] at h2;cases h2;exact Or.inl ⟨_,h1,rfl⟩
 | bld T=>obtain ⟨s,h1,h2⟩:=f.bld k T hc;rw [hk] at h2;cases h2;exact Or.inl ⟨_,h1,rfl⟩
 | arr E fl=>
  obtain ⟨s,h1,h2⟩:=f.arr k E fl hc
  rw [hk] at h1;cases h1
  rcases h2 with ⟨g,h2,_⟩ | ⟨h2,_⟩
  ·exact Or.inl ⟨_,h2,rfl⟩
  ·exact Or.inr h2
theorem StFit.arrBack (f:StFit P st bs bs st st') {k fl:Nat}{E:TypeId}{xs:List PV} (hk:st'[k]?=some (.arr E fl xs)) (hlt:k<st.length):∃ g,st[k]?=some (.arr E g xs)/\(fl=0->g=0):=by
 have hlt':k<bs.length:=by rw [<-f.len];exact (List.getElem?_eq_some_iff.1 hk).1
 have hc:bs[k]?=some bs[k]:=List.getElem?_eq_getElem hlt'
 generalize bs[k]=c at hc
 cases c with
 | acc=>rw [(f.acc k hc).1] at hk;cases hk
 | box T p=>obtain ⟨s,vs,rest,shs,shs',h1,h2,h3⟩:=f.box k T p hc;rw [hk] at h3;cases h3
 | map K E=>obtain ⟨es,h1,h2⟩:=f.map k K E hc;rw [hk] at h2;cases h2
 | mit K E=>obtain ⟨es,h1,c,h2⟩:=f.mit k K E hc;rw [hk] at h1;cases h1
 | iter=>obtain ⟨s,p,h1,h2⟩:=f.iter k hc;rw [hk] at h2;cases h2
 | bld T=>obtain ⟨s,h1,h2⟩:=f.bld k T hc;rw [hk] at h2;cases h2
 | arr E' fl'=>
  obtain ⟨s,h1,h2⟩:=f.arr k E' fl' hc
  rw [hk] at h1;cases h1
  rcases h2 with ⟨g,h2,h3⟩ | ⟨h2,_⟩
  ·exact ⟨g,h2,h3⟩
  ·omega
theorem StFit.kept (f:StFit P st bs bs st st') {k:Nat}{b:BX} (hk:st[k]?=some b) (hlt:k<bs.length):∃ b',st'[k]?=some b'/\b'.kind=b.kind:=by
 have h':st'[k]?=some (st'[k]'(by rw [f.len];exact hlt)):=List.getElem?_eq_getElem _
 rcases f.kind h' with ⟨b0,h1,h2⟩ | h2
 ·rw [hk] at h1;cases h1;exact ⟨_,h',h2⟩
 ·have:=(List.getElem?_eq_some_iff.1 hk).1;omega
theorem StFit.arrOn (f:StFit P st bs bs st st') {k g:Nat}{E:TypeId}{xs:List PV} (hk:st[k]?=some (.arr E g xs)) (hlt:k<bs.length):∃ fl,st'[k]?=some (.arr E fl xs)/\(fl=0->g=0):=by
 obtain ⟨b',h1,h2⟩:=f.kept hk hlt
 obtain ⟨fl,ys,rfl⟩:=ahc h2
 obtain ⟨g',h3,h4⟩:=f.arrBack h1 (List.getElem?_eq_some_iff.1 hk).1
 rw [hk] at h3;cases h3
 exact ⟨fl,h1,h4⟩
theorem ArrKeep.to {w w':World}{ow ow':Own}{μ μ':Nat->Nat}{k n:Nat}{E:TypeId} (h:ArrKeep w ow μ w' ow' μ' k E) (hk:k<n):ArrKeep w ow μ w' (owTo ow' n) μ' k E:=by
 intro cur hc ho
 obtain ⟨e1,e2,cur',e3,e4⟩:=h cur hc ho
 exact ⟨e1,owTo_some.2 ⟨e2,hk⟩,cur',e3,e4⟩
theorem ArrKeep.from {w w':World}{ow ow':Own}{μ μ':Nat->Nat}{k n:Nat}{E:TypeId} (h:ArrKeep w (owTo ow n) μ w' ow' μ' k E) (hk:k<n):ArrKeep w ow μ w' ow' μ' k E:=by
 intro cur hc ho
 exact h cur hc (owTo_some.2 ⟨ho,hk⟩)
theorem Objs.fit (f:StFit P st bs bs st st') (h:Objs P D ow μ st w):Objs P D (owTo ow bs.length) μ st' w:=by
 refine ⟨fun k b hk=>?_,fun b k ob=>?_,h.dlt,fun b k y ob hk hy o d=>?_⟩
 ·have hlt:k<bs.length:=by rw [<-f.len];exact (List.getElem?_eq_some_iff.1 hk).1
  have hc:bs[k]?=some bs[k]:=List.getElem?_eq_getElem hlt
  generalize bs[k]=c at hc
  have keep:∀ c,ow c=some k->w.heap[c]?=w.heap[c]?/\owTo ow bs.length c=some k/\∀ o,D c o->D c o:=fun c oc=>⟨rfl,owTo_some.2 ⟨oc,hlt⟩,fun _ d=>d⟩
  cases c with
  | acc=>rw [(f.acc k hc).1] at hk;cases hk;trivial
  | box T p=>
   obtain ⟨s,vs,rest,shs,shs',h1,h2,h3⟩:=f.box k T p hc
   rw [h3] at hk;cases hk
   obtain ⟨cells,T',q1,q2,q3,q4,q5⟩:=h.obj k _ h1
   exact ⟨cells,T',q1,q2,owTo_some.2 ⟨q3,hlt⟩,q4,akp f p s shs vs shs' rest _ h2 q5⟩
  | map K E=>
   obtain ⟨es,h1,h2⟩:=f.map k K E hc
   rw [h2] at hk;cases hk
   obtain ⟨ents,clock,kc,vc,q1,q2,q3⟩:=h.obj k _ h1
   exact ⟨ents,clock,kc,vc,q1,owTo_some.2 ⟨q2,hlt⟩,q3⟩
  | iter=>
   obtain ⟨s,p,h1,h2⟩:=f.iter k hc
   rw [h2] at hk;cases hk
   exact ObjRep.mono (P:=P) (b:=.iter s p) (h.obj k _ h1) (fun _ _ d=>d) (Keeps.refl _ _) (fun _=>rfl) keep
  | mit K E=>
   obtain ⟨es,h1,c,h2⟩:=f.mit k K E hc
   rw [h1] at hk;cases hk
   have h0:=ObjRep.mono (P:=P) (b:=.mit K E c es) (h.obj k _ h2) (fun _ _ d=>d) (Keeps.refl _ _) (fun _=>rfl) keep
   obtain ⟨q1,q2,m,since,c0,seen,q3,q4,q5⟩:=h0
   exact ⟨q1,q2,m,since,c0,seen,q3,q4,fun e he=>by cases he⟩
  | bld T=>
   obtain ⟨s,h1,h2⟩:=f.bld k T hc
   rw [h2] at hk;cases hk
   exact ObjRep.mono (P:=P) (b:=.bld T s) (h.obj k _ h1) (fun _ _ d=>d) (Keeps.refl _ _) (fun _=>rfl) keep
  | arr E fl=>
   obtain ⟨s,h1,h2⟩:=f.arr k E fl hc
   rw [h1] at hk;cases hk
   rcases h2 with ⟨g,h2,_⟩ | ⟨_,h2⟩
   ·have h0:ObjRep P D w ow μ k (.arr E g s):=h.obj k _ h2
    exact ObjRep.mono (P:=P) (b:=.arr E g s) h0 (fun _ _ d=>d) (Keeps.refl _ _) (fun _=>rfl) keep
   ·subst h2;exact Or.inl rfl
 ·obtain ⟨h1,h2⟩:=owTo_some.1 ob
  exact ⟨(h.owlt b k h1).1,by rw [f.len];exact h2⟩
 ·obtain ⟨h1,h2⟩:=owTo_some.1 ob
  rcases f.kind hk with ⟨b0,q1,q2⟩ | q1
  ·exact h.lone b k b0 h1 q1 (afb q2.symm hy) o d
  ·have:=(h.owlt b k h1).2;omega
theorem WRel.frame (hnp:Γ.np<=bs.length) (f:StFit Γ.P st bs bs st st') (hw:WRel Γ D ow μ st w):WRel Γ D (owTo ow bs.length) μ st' w:=by
 have ho:=hw.objs.fit f
 refine ⟨fun k T s hk=>ho.obj k _ hk,fun k K E es hk=>ho.obj k _ hk,fun k b hk=>?_,ho.owlt,hw.dlt,hw.os,hw.tape,hw.output,hw.hs,hw.old,hw.dom0,hw.domN,fun b k ob hb=>hw.owN b k (owTo_some.1 ob).1 hb,by rw [f.len];exact hnp,hw.mu0,fun k hk=>?_,ho.lone,hw.keep0,fun k hk E xs e=>?_⟩
 ·have:=ho.obj k b hk
  cases b with
  | box T s=>trivial
  | map K E es=>trivial
  | acc g=>trivial
  | hole=>trivial
  | _=>exact this
 ·obtain ⟨s,hs,p1⟩:=hw.par k hk
  obtain ⟨b',h1,h2⟩:=f.kept hs (Nat.lt_of_lt_of_le hk hnp)
  exact ⟨b',h1,h2.trans p1⟩
 ·obtain ⟨g,h1,h2⟩:=f.arrBack e (Nat.lt_of_lt_of_le hk hw.np)
  have:=h2 rfl;subst this
  obtain ⟨h3,h4⟩:=hw.arr0 k hk E xs h1
  exact ⟨h3,h4.to (Nat.lt_of_lt_of_le hk hnp)⟩
theorem Rel.frame {e e':Env}{a:Act} (hnp:Γ.np<=bs.length) (f:StFit Γ.P st bs bs st st') (he:∀ t,e' t=.undef∨∃ sh,ai3 Γ.P st bs sh (e t)=some (e' t)) (hr:Rel Γ e st a w):Rel Γ e' st' a w:=by
 obtain ⟨D,ow,μ,hw,hs⟩:=hr
 refine ⟨D,owTo ow bs.length,μ,hw.frame hnp f,hs.size,hs.defers,fun t=>?_⟩
 ·rcases he t with h | ⟨sh,h⟩
  ·rw [h];exact SRep.slot .undef
  ·have hst:=hs.slot t
   have hne:∀ u want x,e t≠.gd u want x:=by
    intro u want x hg
    rw [hg] at h
    unfold ai3 at h
    split at h
    ·simp at h
    ·simp [ain] at h
    ·split at h<;>simp [apk,akc] at h
    ·simp at h
    ·simp at h
    ·simp [ain] at h
   have hst':SRep Γ.P D w ow μ st (e t) (a.tmps.getD t Go.undef):=by
    cases he:e t with
    | gd u want x=>exact absurd he (hne u want x)
    | _=>rw [he] at hst;exact hst
   exact (acz f hst' h).slot
theorem Frame.dec_spec {F:Frame}{e:Env}{x:F.ty} (h:F.dec P e st=some x):StFit P st F.bs F.bs st (F.st x)/\∀ t,F.env x t=.undef∨∃ sh,ai3 P st F.bs sh (e t)=some (F.env x t):=by
 unfold Frame.dec at h
 split at h
 ·rename_i vs us h1 h2
  have h3:=ara _ _ _ h
  obtain ⟨l,h4⟩:=ano _ _ _ h1
  have h5:=ami _ _ _ _ h2
  have e1:F.st x=toSt F.bs us:=by
   unfold Frame.st
   rw [<-h3,<-l,List.drop_left]
  have e2:F.env x=ais F.slots vs:=by
   unfold Frame.env
   rw [<-h3]
   have:∀ (ts:List Nat) (vs us:List SV),vs.length=ts.length->ais ts (vs++us)=ais ts vs:=by
    intro ts
    induction ts with
    | nil=>intro vs us _;simp [ais]
    | cons t ts ih=>
     intro vs us hl
     cases vs with
     | nil=>simp at hl
     | cons v vs=>simp only [List.cons_append,ais];rw [ih vs us (by simpa using hl)]
   exact this _ _ _ l
  rw [e1,e2]
  exact ⟨h5,h4⟩
 ·cases h
theorem Frame.dec_sound {F:Frame}{e:Env}{x:F.ty}{a:Act} (hP:Γ.P=P) (hnp:Γ.np<=F.bs.length) (h:F.dec P e st=some x) (hr:Rel Γ e st a w):Rel Γ (F.env x) (F.st x) a w:=by
 subst hP
 obtain ⟨h1,h2⟩:=Frame.dec_spec h
 exact Rel.frame hnp h1 h2 hr
theorem Frame.dec_pan {F:Frame}{e:Env}{x:F.ty}{v:Value}{a:Act} (hP:Γ.P=P) (hnp:Γ.np<=F.bs.length) (h:F.dec P e st=some x) (hr:PRel Γ (e 0) st v a w):PRel Γ (F.env x 0) (F.st x) v a w:=by
 subst hP
 obtain ⟨h1,h2⟩:=Frame.dec_spec h
 obtain ⟨hd,D,ow,μ,hw,hs⟩:=hr
 refine ⟨hd,D,owTo ow F.bs.length,μ,hw.frame hnp h1,?_⟩
 rcases h2 0 with h | ⟨sh,h⟩
 ·rw [h];exact .undef
 ·exact acz h1 hs h
end
def anm:LEx->LEx->Bool
 | .exit i,.exit j=>Nat.beq i j
 | .ret,.ret=>true
 | .pan,.pan=>true
 | _,_=>false
theorem ahd {x y:LEx} (h:anm x y=true):x=y:=by
 unfold anm at h
 split at h
 ·rw [Nat.eq_of_beq_eq_true h]
 ·rfl
 ·rfl
 ·cases h
@[reducible] def XTy:List (LEx×Frame)->Type
 | []=>Empty
 | [x]=>x.2.ty
 | x::y::r=>x.2.ty⊕XTy (y::r)
def decX (P:Program):(X:List (LEx×Frame))->LEx->Env->List BX->Option (XTy X)
 | [],_,_,_=>none
 | [x],l,e,st=>bif anm x.1 l then x.2.dec P e st else none
 | x::y::r,l,e,st=>bif anm x.1 l then (match x.2.dec P e st with | some v=>some (.inl v) | none=>none) else (match decX P (y::r) l e st with | some v=>some (.inr v) | none=>none)
def exX:(X:List (LEx×Frame))->XTy X->LEx
 | [x],_=>x.1
 | x::_::_,.inl _=>x.1
 | _::y::r,.inr v=>exX (y::r) v
def envX:(X:List (LEx×Frame))->XTy X->Env
 | [x],v=>x.2.env v
 | x::_::_,.inl v=>x.2.env v
 | _::y::r,.inr v=>envX (y::r) v
def stX:(X:List (LEx×Frame))->XTy X->List BX
 | [x],v=>x.2.st v
 | x::_::_,.inl v=>x.2.st v
 | _::y::r,.inr v=>stX (y::r) v
def sumE {α β γ:Type} (f:α->γ) (g:β->γ):α⊕β->γ
 | .inl a=>f a
 | .inr b=>g b
def kX {R:Type}:(X:List (LEx×Frame))->XTy X->(LEx->Env->List BX->Option R)->Option R
 | [x],v,K=>K x.1 (x.2.env v) (x.2.st v)
 | x::y::r,v,K=>sumE (fun v=>K x.1 (x.2.env v) (x.2.st v)) (fun v=>kX (y::r) v K) v
theorem a6y {R:Type}:∀ (X:List (LEx×Frame)) (v:XTy X) (K:LEx->Env->List BX->Option R),kX X v K=K (exX X v) (envX X v) (stX X v):=by
 intro X
 induction X with
 | nil=>intro v;cases v
 | cons x r ih=>
  intro v K
  cases r with
  | nil=>rfl
  | cons y r=>
   cases v with
   | inl v=>rfl
   | inr v=>exact ih v K
def npX (np:Nat) (X:List (LEx×Frame)):Bool:=X.all fun x=>Nat.ble np x.2.bs.length
theorem aq4:∀ (X:List (LEx×Frame)) (v:XTy X),NoGd (envX X v):=by
 intro X
 induction X with
 | nil=>intro v;cases v
 | cons x r ih=>
  intro v
  cases r with
  | nil=>exact x.2.noGd v
  | cons y r=>
   cases v with
   | inl v=>exact x.2.noGd v
   | inr v=>exact ih v
theorem aj3 {P:Program}{e:Env}{st:List BX}{l:LEx}:∀ (X:List (LEx×Frame)) (v:XTy X),decX P X l e st=some v->exX X v=l:=by
 intro X
 induction X with
 | nil=>intro v;cases v
 | cons x r ih=>
  intro v h
  cases r with
  | nil=>
   simp only [decX] at h
   cases hb:anm x.1 l with
   | false=>rw [hb] at h;simp at h
   | true=>exact ahd hb
  | cons y r=>
   simp only [decX] at h
   cases hb:anm x.1 l with
   | true=>
    rw [hb] at h
    simp only [cond_true] at h
    split at h
    ·cases h;exact ahd hb
    ·cases h
   | false=>
    rw [hb] at h
    simp only [cond_false] at h
    split at h
    ·rename_i u hu;cases h;exact ih u hu
    ·cases h
theorem ag6 {Γ:Ctx}{P:Program} (hP:Γ.P=P) {w:World}{a:Act}{e:Env}{st:List BX}{l:LEx}:∀ (X:List (LEx×Frame)) (v:XTy X),npX Γ.np X=true->decX P X l e st=some v->exX X v=l/\(Rel Γ e st a w->Rel Γ (envX X v) (stX X v) a w):=by
 intro X
 induction X with
 | nil=>intro v;cases v
 | cons x r ih=>
  intro v hn h
  have hx:Γ.np<=x.2.bs.length:=by
   simp only [npX,List.all_cons,Bool.and_eq_true] at hn
   exact Nat.le_of_ble_eq_true hn.1
  cases r with
  | nil=>
   simp only [decX] at h
   cases hb:anm x.1 l with
   | false=>rw [hb] at h;simp at h
   | true=>
    rw [hb] at h
    exact ⟨ahd hb,fun hr=>Frame.dec_sound hP hx h hr⟩
  | cons y r=>
   simp only [decX] at h
   cases hb:anm x.1 l with
   | true=>
    rw [hb] at h
    simp only [cond_true] at h
    split at h
    ·rename_i u hu
     cases h
     exact ⟨ahd hb,fun hr=>Frame.dec_sound hP hx hu hr⟩
    ·cases h
   | false=>
    rw [hb] at h
    simp only [cond_false] at h
    split at h
    ·rename_i u hu
     cases h
     have hn':npX Γ.np (y::r)=true:=by
      simp only [npX,List.all_cons,Bool.and_eq_true] at hn ⊢
      exact hn.2
     exact ih u hn' hu
    ·cases h
theorem avb {Γ:Ctx}{P:Program} (hP:Γ.P=P) {w:World}{a:Act}{v0:Value}{e:Env}{st:List BX}{l:LEx}:∀ (X:List (LEx×Frame)) (v:XTy X),npX Γ.np X=true->decX P X l e st=some v->exX X v=l/\(PRel Γ (e 0) st v0 a w->PRel Γ (envX X v 0) (stX X v) v0 a w):=by
 intro X
 induction X with
 | nil=>intro v;cases v
 | cons x r ih=>
  intro v hn h
  have hx:Γ.np<=x.2.bs.length:=by
   simp only [npX,List.all_cons,Bool.and_eq_true] at hn
   exact Nat.le_of_ble_eq_true hn.1
  cases r with
  | nil=>
   simp only [decX] at h
   cases hb:anm x.1 l with
   | false=>rw [hb] at h;simp at h
   | true=>
    rw [hb] at h
    exact ⟨ahd hb,fun hr=>Frame.dec_pan hP hx h hr⟩
  | cons y r=>
   simp only [decX] at h
   cases hb:anm x.1 l with
   | true=>
    rw [hb] at h
    simp only [cond_true] at h
    split at h
    ·rename_i u hu
     cases h
     exact ⟨ahd hb,fun hr=>Frame.dec_pan hP hx hu hr⟩
    ·cases h
   | false=>
    rw [hb] at h
    simp only [cond_false] at h
    split at h
    ·rename_i u hu
     cases h
     have hn':npX Γ.np (y::r)=true:=by
      simp only [npX,List.all_cons,Bool.and_eq_true] at hn ⊢
      exact hn.2
     exact ih u hn' hu
    ·cases h
def adp {σ τ:Type} (step:σ->Option (σ⊕τ)):Nat->σ->Option τ
 | 0,_=>none
 | n+1,x=>
  match step x with
  | none=>none
  | some (.inl x1)=>adp step n x1
  | some (.inr y)=>some y
theorem aoc {σ τ:Type}{step:σ->Option (σ⊕τ)}:∀ (n m:Nat) (x:σ) (y:τ),adp step n x=some y->n<=m->adp step m x=some y:=by
 intro n
 induction n with
 | zero=>intro m x y h;simp [adp] at h
 | succ n ih=>
  intro m x y h hm
  obtain ⟨k,rfl⟩:∃ k,m=k+1:=⟨m-1,by omega⟩
  unfold adp at h ⊢
  split at h
  ·cases h
  ·rename_i x1 h1;exact ih k x1 y h (by omega)
  ·rename_i z h1;exact h
open Classical in
noncomputable def aay {σ τ:Type} (step:σ->Option (σ⊕τ)) (x:σ):Option τ:=
 if h:∃ n y,adp step n x=some y then adp step h.choose x else none
theorem ahe {σ τ:Type}{step:σ->Option (σ⊕τ)}{x:σ}{y:τ} (h:aay step x=some y):∃ n,adp step n x=some y:=by
 unfold aay at h
 split at h
 ·exact ⟨_,h⟩
 ·cases h
theorem apm {σ τ:Type}{step:σ->Option (σ⊕τ)}{x:σ}{y:τ} (n:Nat) (h:adp step n x=some y):aay step x=some y:=by
 unfold aay
 have he:∃ n y,adp step n x=some y:=⟨n,y,h⟩
 rw [dif_pos he]
 obtain ⟨z,hz⟩:=he.choose_spec
 have h1:=aoc _ (max n he.choose) _ _ hz (Nat.le_max_right _ _)
 have h2:=aoc _ (max n he.choose) _ _ h (Nat.le_max_left _ _)
 rw [h1] at h2
 cases h2
 exact hz
theorem avu {σ τ:Type} (step:σ->Option (σ⊕τ)) (x:σ):aay step x=(match step x with | none=>none | some (.inl x1)=>aay step x1 | some (.inr y)=>some y):=by
 cases hx:step x with
 | none=>
  cases hw:aay step x with
  | none=>rfl
  | some y=>
   obtain ⟨n,hn⟩:=ahe hw
   cases n with
   | zero=>simp [adp] at hn
   | succ n=>simp [adp,hx] at hn
 | some s=>
  cases s with
  | inr y=>exact apm 1 (by simp [adp,hx])
  | inl x1=>
   show _=aay step x1
   cases hw:aay step x1 with
   | some y=>
    obtain ⟨n,hn⟩:=ahe hw
    exact apm (n+1) (by simp [adp,hx,hn])
   | none=>
    cases hw2:aay step x with
    | none=>rfl
    | some y=>
     obtain ⟨n,hn⟩:=ahe hw2
     cases n with
     | zero=>simp [adp] at hn
     | succ n=>
      simp only [adp,hx] at hn
      rw [apm n hn] at hw
      cases hw
theorem aa0 {σ τ:Type}{step:σ->Option (σ⊕τ)}{x x1:σ} (h:step x=some (.inl x1)):aay step x=aay step x1:=by rw [avu,h]
theorem aah {σ τ:Type}{step:σ->Option (σ⊕τ)}{x:σ}{y:τ} (h:step x=some (.inr y)):aay step x=some y:=by rw [avu,h]
noncomputable def aaf {σ τ:Type} (fuel:Nat) (step:σ->Option (σ⊕τ)) (x:σ):Option τ:=
 match fuel with
 | 0=>aay step x
 | n+1=>adp step (n+1) x
theorem axe {σ τ:Type}{fuel:Nat}{step:σ->Option (σ⊕τ)}{x:σ}{y:τ} (h:aaf fuel step x=some y):∃ n,adp step n x=some y:=by
 unfold aaf at h
 split at h
 ·exact ahe h
 ·exact ⟨_,h⟩
theorem aa9 {σ τ:Type} (step:σ->Option (σ⊕τ)) (x:σ):aaf 0 step x=aay step x:=rfl
structure LoopE where
 key:Nat
 H:Frame
 X:List (LEx×Frame)
 step:H.ty->Option (H.ty⊕XTy X)
noncomputable def a6z (P:Program) (fuel:Nat):List LoopE->(R:Type)->Nat->Env->List BX->(LEx->Env->List BX->Option R)->Option R
 | [],_,_,_,_,_=>none
 | l::r,R,key,e,st,K=>bif Nat.beq l.key key then (l.H.dec P e st).bind fun x=>(aaf fuel l.step x).bind fun y=>kX l.X y K else a6z P fuel r R key e st K
def aun {σ τ:Type} (x:Option σ):Option (σ⊕τ):=match x with | some v=>some (.inl v) | none=>none
def aij {σ τ:Type} (x:Option τ):Option (σ⊕τ):=match x with | some v=>some (.inr v) | none=>none
def aou (C:Cfg) (body:Code) (l:LoopE):Prop:=
 ∀ (x:l.H.ty),exec C body { norm:=fun e st=>aun (l.H.dec C.P e st),exit:=fun i e st=>aij (decX C.P l.X (.exit i) e st),ret:=fun e st=>aij (decX C.P l.X .ret e st),pan:=fun s st=>aij (decX C.P l.X .pan (fun t=>bif Nat.beq t 0 then s else .undef) st) } (l.H.env x) (l.H.st x)=l.step x
theorem ats {C:Cfg} (hC:aai C) {body:Code}{l:LoopE} (hL:∀ b,b∈aau body->LoopOk C b) (hnp:Nat.ble C.np l.H.bs.length=true) (hX:npX C.np l.X=true) (hstep:aou C body l):
 ∀ (n:Nat) (x:l.H.ty) (y:XTy l.X),adp l.step n x=some y->au2 C body n (l.H.env x) (l.H.st x) (exX l.X y) (envX l.X y) (stX l.X y):=by
 intro n
 induction n with
 | zero=>intro x y h;simp [adp] at h
 | succ n ih=>
  intro x y h
  have hs:=hstep x
  cases hx:l.step x with
  | none=>simp [adp,hx] at h
  | some s=>
   rw [hx] at hs
   refine axf hC hL hs (fun e1 st1 hk hg=>?_) (fun i e1 st1 hk hg=>?_) (fun e1 st1 hk hg=>?_) (fun s1 st1 hk=>?_)
   ·simp only [aun] at hk
    split at hk
    ·rename_i x1 h1
     cases hk
     simp only [adp,hx] at h
     intro Γ hP hn hnp' Q a w hr hg' hQ
     exact ih x1 y h Γ hP hn hnp' Q a w (Frame.dec_sound hP (by rw [hnp'];exact Nat.le_of_ble_eq_true hnp) h1 hr) (l.H.noGd x1) hQ
    ·cases hk
   ·simp only [aij] at hk
    split at hk
    ·rename_i z hk'
     cases hk
     simp only [adp,hx,Option.some.injEq] at h
     subst h
     exact ⟨aj3 l.X z hk',fun Γ a w hP hn=>(ag6 (a:=a) (w:=w) hP l.X z (by rw [hn];exact hX) hk').2⟩
    ·cases hk
   ·simp only [aij] at hk
    split at hk
    ·rename_i z hk'
     cases hk
     simp only [adp,hx,Option.some.injEq] at h
     subst h
     exact ⟨aj3 l.X z hk',fun Γ a w hP hn=>(ag6 (a:=a) (w:=w) hP l.X z (by rw [hn];exact hX) hk').2⟩
    ·cases hk
   ·simp only [aij] at hk
    split at hk
    ·rename_i z hk'
     cases hk
     simp only [adp,hx,Option.some.injEq] at h
     subst h
     exact ⟨aj3 l.X z hk',fun Γ v a w hP hn hp=>(avb (a:=a) (w:=w) (v0:=v) hP l.X z (by rw [hn];exact hX) hk').2 hp⟩
    ·cases hk
theorem a0b {C:Cfg} (hC:aai C) {body:Code} (fuel:Nat) (l:LoopE) (hL:∀ b,b∈aau body->LoopOk C b) (hnp:(Nat.ble C.np l.H.bs.length&&npX C.np l.X)=true) (hstep:aou C body l)
 (hlam:∀ (R:Type) (e:Env) (st:List BX) (K:LEx->Env->List BX->Option R),C.lam R (ai1 body) e st K=(l.H.dec C.P e st).bind fun x=>(aaf fuel l.step x).bind fun y=>kX l.X y K):LoopOk C body:=by
 simp only [Bool.and_eq_true] at hnp
 refine LoopOk.one fun R e st K r h=>?_
 rw [hlam] at h
 simp only [Option.bind_eq_some_iff] at h
 obtain ⟨x,h1,y,h2,h3⟩:=h
 rw [a6y] at h3
 obtain ⟨n,h2⟩:=axe h2
 refine ⟨exX l.X y,envX l.X y,stX l.X y,n,h3,aq4 _ _,?_⟩
 intro Γ hP hn hnp' Q a w hr hg hQ
 exact ats hC hL hnp.1 hnp.2 hstep n x y h2 Γ hP hn hnp' Q a w (Frame.dec_sound hP (by rw [hnp'];exact Nat.le_of_ble_eq_true hnp.1) h1 hr) (l.H.noGd x) hQ
structure AFrame where
 n:Nat
 bs:List BSh
 sh:List Shape
@[reducible] def AFrame.ty (A:AFrame):Type:=TyL A.sh
def AFrame.args (A:AFrame) (x:A.ty):List SV:=(encL A.sh x).take A.n
def AFrame.st (A:AFrame) (x:A.ty):List BX:=toSt A.bs ((encL A.sh x).drop A.n)
def ahg (P:Program) (st:List BX) (bs:List BSh):List SV->List Shape->Option (List SV)
 | [],_=>some []
 | s::ss,sh::shs=>match ai3 P st bs sh s,ahg P st bs ss shs with | some v,some vs=>some (v::vs) | _,_=>none
 | _::_,[]=>none
def AFrame.get (A:AFrame) (P:Program) (as:List SV) (st:List BX):Option A.ty:=
 bif Nat.beq as.length A.n then
  match ahg P st A.bs as A.sh,aeq P st A.bs A.bs st (A.sh.drop A.n) with
  | some vs,some us=>getL A.sh (vs++us)
  | _,_=>none
 else none
theorem apw {P:Program}{st:List BX}{bs:List BSh}:∀ (as:List SV) (shs:List Shape) (vs:List SV),ahg P st bs as shs=some vs->vs.length=as.length/\∀ (i:Nat) (x:SV),vs[i]?=some x->∃ y sh,as[i]?=some y/\ai3 P st bs sh y=some x:=by
 intro as
 induction as with
 | nil=>intro shs vs h;simp [ahg] at h;subst h;exact ⟨rfl,fun i x hi=>by simp at hi⟩
 | cons s ss ih=>
  intro shs vs h
  cases shs with
  | nil=>simp [ahg] at h
  | cons sh shs=>
   simp only [ahg] at h
   split at h
   ·rename_i v vs' h1 h2
    cases h
    obtain ⟨l,hh⟩:=ih shs vs' h2
    refine ⟨by simp [l],fun i x hi=>?_⟩
    cases i with
    | zero=>simp at hi;subst hi;exact ⟨s,sh,rfl,h1⟩
    | succ i=>obtain ⟨y,sh',h3,h4⟩:=hh i x (by simpa using hi);exact ⟨y,sh',by simpa using h3,h4⟩
   ·cases h
theorem AFrame.get_spec {P:Program}{A:AFrame}{as:List SV}{st:List BX}{x:A.ty} (h:A.get P as st=some x):as.length=A.n/\StFit P st A.bs A.bs st (A.st x)/\(A.args x).length=as.length/\∀ (i:Nat) (s:SV),(A.args x)[i]?=some s->∃ y sh,as[i]?=some y/\ai3 P st A.bs sh y=some s:=by
 unfold AFrame.get at h
 cases hb:Nat.beq as.length A.n with
 | false=>rw [hb] at h;simp at h
 | true=>
  rw [hb] at h
  have hl:=Nat.eq_of_beq_eq_true hb
  simp only [cond_true] at h
  split at h
  ·rename_i vs us h1 h2
   have h3:=ara _ _ _ h
   obtain ⟨l,h4⟩:=apw _ _ _ h1
   have h5:=ami _ _ _ _ h2
   have hn:vs.length=A.n:=by omega
   have e1:A.st x=toSt A.bs us:=by
    unfold AFrame.st
    rw [<-h3,<-hn,List.drop_left]
   have e2:A.args x=vs:=by
    unfold AFrame.args
    rw [<-h3,<-hn,List.take_left]
   rw [e1,e2]
   exact ⟨hl,h5,l,h4⟩
  ·cases h
theorem Meets.enter {P:Program}{A:AFrame}{f:FuncId}{as:List SV}{st:List BX}{x:A.ty} (h:A.get P as st=some x) (hle:st.length<=A.bs.length) {rs:List SV}{st':List BX} (hm:Meets P f (A.args x) (A.st x) rs st'):Meets P f as st rs st':=by
 obtain ⟨h1,h2,h3,h4⟩:=AFrame.get_spec h
 refine ⟨hm.1,fun D ow μ w vals pre=>?_⟩
 have pre':Pre P D (owTo ow A.bs.length) μ (A.st x) w (A.args x) vals:=by
  refine ⟨by rw [pre.size,h3],fun i s v hs hv=>?_,pre.objs.fit h2,fun p hp g hg=>?_⟩
  ·obtain ⟨y,sh,hy,hl⟩:=h4 i s hs
   exact acz h2 (pre.arg i y v hy hv) hl
  ·obtain ⟨q1,q2⟩:=pre.tabs p hp g hg
   exact ⟨by simp [owTo,q1],q2⟩
 refine (hm.2 D _ μ w vals pre').mono fun e w' ⟨v,D',he,hp⟩=>⟨v,D',he,hp.dom,fun b o d=>?_,?_,hp.os,hp.tape,hp.output,hp.size,fun b hb hn=>hp.old b hb (by simp [owTo,hn]),hp.keeps⟩
 ·rcases hp.new b o d with d | d | d
  ·exact Or.inl d
  ·exact Or.inr (Or.inl d)
  ·exact Or.inr (Or.inr (fun hn=>d (by simp [owTo,hn])))
 ·obtain ⟨ow',μ',hr⟩:=hp.rest
  refine ⟨ow',μ',hr.objs,hr.res,fun b k hb hlt=>(owTo_some.1 (hr.own b k hb hlt)).1,fun k b hk=>?_,fun k E g xs ys hk hk'=>?_⟩
  ·obtain ⟨b1,q1,q2⟩:=h2.kept hk (Nat.lt_of_lt_of_le (List.getElem?_eq_some_iff.1 hk).1 hle)
   obtain ⟨b2,r1,r2,r3⟩:=hr.keep k b1 q1
   exact ⟨b2,r1,r2.trans q2,fun hacc harr=>r3 (afb q2 hacc) (arf q2 harr)⟩
  ·have hlt:=Nat.lt_of_lt_of_le (List.getElem?_eq_some_iff.1 hk).1 hle
   obtain ⟨fl,q1,q2⟩:=h2.arrOn hk hlt
   obtain ⟨r1,r2⟩:=hr.same k E fl xs ys q1 hk'
   exact ⟨r1,r2.from hlt⟩
theorem Post.leave {P:Program}{A:AFrame}{D:Dom}{w:World}{ow:Own}{μ:Nat->Nat}{st:List BX}{rs:List SV}{s:List BX}{v:Value}{D':Dom}{w':World}{y:A.ty} (h:A.get P rs s=some y) (hle:st.length<=A.bs.length) (hp:Post P D w ow μ st rs s v D' w'):Post P D w ow μ st (A.args y) (A.st y) v D' w'/\agj (A.args y) v=agj rs v:=by
 obtain ⟨h1,h2,h3,h4⟩:=AFrame.get_spec h
 obtain ⟨ow',μ',hr⟩:=hp.rest
 have hnp:∀ s0,rs≠[.pan s0]:=by
  rintro s0 rfl
  obtain ⟨s1,hs1⟩:=List.length_eq_one_iff.1 (show (A.args y).length=1 by rw [h3];rfl)
  obtain ⟨z,sh,hz,hlo⟩:=h4 0 s1 (by rw [hs1];rfl)
  simp at hz;subst hz
  rw [a0d] at hlo;cases hlo
 rcases abw hr.res with ⟨s0,e,_⟩ | ⟨_,hres0,hend⟩
 ·exact absurd e (hnp s0)
 have hres':SRep P D' w' (owTo ow' A.bs.length) μ' (A.st y) (adf (A.args y)) v:=by
  have hres:=hres0
  by_cases hl:rs.length=1
  ·obtain ⟨s0,rfl⟩:=List.length_eq_one_iff.1 hl
   obtain ⟨s1,hs1⟩:=List.length_eq_one_iff.1 (show (A.args y).length=1 by omega)
   rw [hs1] at h4 ⊢
   obtain ⟨z,sh,hz,hlo⟩:=h4 0 s1 rfl
   simp at hz;subst hz
   exact acz h2 hres hlo
  ·have e1:∀ l:List SV,l.length≠1->adf l=.tup l:=by
    intro l hl
    match l,hl with
    | [],_=>rfl
    | [x],hl=>exact absurd rfl hl
    | x::y::r,_=>rfl
   rw [e1 rs hl] at hres
   rw [e1 _ (by omega)]
   cases hres with
   | tup hs hall=>
    refine .tup (by omega) (fun i x u hx hu=>?_)
    obtain ⟨z,sh,hz,hlo⟩:=h4 i x hx
    exact acz h2 (hall i z u hz hu) hlo
 obtain ⟨hres2,hend2⟩:=ajk hres'
 refine ⟨⟨hp.dom,hp.new,?_,hp.os,hp.tape,hp.output,hp.size,hp.old,hp.keeps⟩,hend2.trans hend.symm⟩
 refine ⟨owTo ow' A.bs.length,μ',hr.objs.fit h2,hres2,fun b k hb hlt=>hr.own b k (owTo_some.1 hb).1 hlt,fun k b hk=>?_,fun k E g xs ys hk hk'=>?_⟩
 ·obtain ⟨b1,q1,q2,q3⟩:=hr.keep k b hk
  obtain ⟨b2,r1,r2⟩:=h2.kept q1 (Nat.lt_of_lt_of_le (List.getElem?_eq_some_iff.1 hk).1 hle)
  exact ⟨b2,r1,r2.trans q2,q3⟩
 ·have hlt:=Nat.lt_of_lt_of_le (List.getElem?_eq_some_iff.1 hk).1 hle
  obtain ⟨b1,p1,p2,_⟩:=hr.keep k _ hk
  obtain ⟨g1,q1,q2⟩:=h2.arrBack hk' (List.getElem?_eq_some_iff.1 p1).1
  have:=q2 rfl;subst this
  obtain ⟨r1,r2⟩:=hr.same k E g xs ys hk q1
  exact ⟨r1,r2.to hlt⟩
theorem Post.leaveP {P:Program}{A:AFrame}{D:Dom}{w:World}{ow:Own}{μ:Nat->Nat}{st:List BX}{s0:SV}{s:List BX}{v:Value}{D':Dom}{w':World}{y:A.ty} (h:A.get P [s0] s=some y) (hle:st.length<=A.bs.length) (hp:Post P D w ow μ st [.pan s0] s v D' w'):Post P D w ow μ st [.pan ((A.args y).headD .undef)] (A.st y) v D' w':=by
 obtain ⟨h1,h2,h3,h4⟩:=AFrame.get_spec h
 obtain ⟨ow',μ',hr⟩:=hp.rest
 refine ⟨hp.dom,hp.new,?_,hp.os,hp.tape,hp.output,hp.size,hp.old,hp.keeps⟩
 obtain ⟨s1,hs1⟩:=List.length_eq_one_iff.1 (show (A.args y).length=1 by rw [h3];rfl)
 obtain ⟨z,sh,hz,hlo⟩:=h4 0 s1 (by rw [hs1];rfl)
 simp at hz;subst hz
 rw [hs1]
 refine ⟨owTo ow' A.bs.length,μ',hr.objs.fit h2,acz h2 hr.res hlo,fun b k hb hlt=>hr.own b k (owTo_some.1 hb).1 hlt,fun k b hk=>?_,fun k E g xs ys hk hk'=>?_⟩
 ·obtain ⟨b1,q1,q2,q3⟩:=hr.keep k b hk
  obtain ⟨b2,r1,r2⟩:=h2.kept q1 (Nat.lt_of_lt_of_le (List.getElem?_eq_some_iff.1 hk).1 hle)
  exact ⟨b2,r1,r2.trans q2,q3⟩
 ·have hlt:=Nat.lt_of_lt_of_le (List.getElem?_eq_some_iff.1 hk).1 hle
  obtain ⟨b1,p1,p2,_⟩:=hr.keep k _ hk
  obtain ⟨g1,q1,q2⟩:=h2.arrBack hk' (List.getElem?_eq_some_iff.1 p1).1
  have:=q2 rfl;subst this
  obtain ⟨r1,r2⟩:=hr.same k E g xs ys hk q1
  exact ⟨r1,r2.to hlt⟩
structure CallE where
 f:FuncId
 A:AFrame
 R:AFrame
 F:A.ty->Option R.ty
 dflt:R.ty
def CallE.Ok (P:Program) (c:CallE):Prop:=∀ (x:c.A.ty) (y:c.R.ty),c.F x=some y->Meets P c.f (c.A.args x) (c.A.st x) (c.R.args y) (c.R.st y)
structure CallP where
 f:FuncId
 A:AFrame
 R:AFrame
 X:AFrame
 F:A.ty->Option (R.ty⊕X.ty)
 dflt:R.ty
def CallP.Ok (P:Program) (c:CallP):Prop:=∀ (x:c.A.ty),(∀ (y:c.R.ty),c.F x=some (.inl y)->Meets P c.f (c.A.args x) (c.A.st x) (c.R.args y) (c.R.st y))/\∀ (y:c.X.ty),c.F x=some (.inr y)->Meets P c.f (c.A.args x) (c.A.st x) [.pan ((c.X.args y).headD .undef)] (c.X.st y)
def awn (P:Program):List CallP->(R:Type)->Bool->FuncId->List SV->List BX->(List SV->List BX->Option R)->Option R
 | [],_,_,_,_,_,_=>none
 | c::r,R,b,f,as,st,K=>
  bif Nat.beq c.f f&&Nat.ble st.length c.A.bs.length then
   match c.A.get P as st with
   | some x=>(bif b then c.F x else some (.inl c.dflt)).bind fun y=>sumE (fun y=>K (c.R.args y) (c.R.st y)) (fun y=>K [.pan ((c.X.args y).headD .undef)] (c.X.st y)) y
   | none=>awn P r R b f as st K
  else awn P r R b f as st K
def aqr (P:Program) (ps:List CallP):List CallE->(R:Type)->Bool->FuncId->List SV->List BX->(List SV->List BX->Option R)->Option R
 | [],R,b,f,as,st,K=>awn P ps R b f as st K
 | c::r,R,b,f,as,st,K=>
  bif Nat.beq c.f f&&Nat.ble st.length c.A.bs.length then
   match c.A.get P as st with
   | some x=>(bif b then c.F x else some c.dflt).bind fun y=>K (c.R.args y) (c.R.st y)
   | none=>aqr P ps r R b f as st K
  else aqr P ps r R b f as st K
theorem a1x {P:Program}:∀ (cs:List CallP),(∀ c,c∈cs->c.Ok P)->∀ (R:Type) (b:Bool) (f:FuncId) (as:List SV) (st:List BX) (K:List SV->List BX->Option R) (r:R),awn P cs R b f as st K=some r->
 (b=true->∃ rs st',K rs st'=some r/\Meets P f as st rs st')/\∃ rs st',K rs st'=some r:=by
 intro cs
 induction cs with
 | nil=>intro _ R b f as st K r h;simp [awn] at h
 | cons c cs ih=>
  intro hok R b f as st K r h
  have ih':=ih (fun c hc=>hok c (List.mem_cons_of_mem _ hc)) R b f as st K r
  simp only [awn] at h
  cases hb:(Nat.beq c.f f&&Nat.ble st.length c.A.bs.length) with
  | false=>rw [hb] at h;exact ih' h
  | true=>
   rw [hb] at h
   simp only [Bool.and_eq_true] at hb
   have:=Nat.eq_of_beq_eq_true hb.1;subst this
   simp only [cond_true] at h
   split at h
   ·rename_i x hx
    cases b with
    | true=>
     simp only [cond_true,Option.bind_eq_some_iff] at h
     obtain ⟨y,h1,h2⟩:=h
     have hk:=hok c (by simp) x
     cases y with
     | inl y=>exact ⟨fun _=>⟨_,_,h2,Meets.enter hx (Nat.le_of_ble_eq_true hb.2) (hk.1 y h1)⟩,_,_,h2⟩
     | inr y=>exact ⟨fun _=>⟨_,_,h2,Meets.enter hx (Nat.le_of_ble_eq_true hb.2) (hk.2 y h1)⟩,_,_,h2⟩
    | false=>
     simp only [cond_false,Option.bind_some] at h
     exact ⟨fun h=>absurd h (by decide),_,_,h⟩
   ·exact ih' h
theorem ays {C:Cfg}{ps:List CallP} (hps:∀ c,c∈ps->c.Ok C.P):∀ (cs:List CallE),(∀ c,c∈cs->c.Ok C.P)->∀ (R:Type) (b:Bool) (f:FuncId) (as:List SV) (st:List BX) (K:List SV->List BX->Option R) (r:R),aqr C.P ps cs R b f as st K=some r->
 (b=true->∃ rs st',K rs st'=some r/\Meets C.P f as st rs st')/\∃ rs st',K rs st'=some r:=by
 intro cs
 induction cs with
 | nil=>intro _ R b f as st K r h;exact a1x ps hps R b f as st K r h
 | cons c cs ih=>
  intro hok R b f as st K r h
  have ih':=ih (fun c hc=>hok c (List.mem_cons_of_mem _ hc)) R b f as st K r
  simp only [aqr] at h
  cases hb:(Nat.beq c.f f&&Nat.ble st.length c.A.bs.length) with
  | false=>rw [hb] at h;exact ih' h
  | true=>
   rw [hb] at h
   simp only [Bool.and_eq_true] at hb
   have:=Nat.eq_of_beq_eq_true hb.1;subst this
   simp only [cond_true] at h
   split at h
   ·rename_i x hx
    cases b with
    | true=>
     simp only [cond_true,Option.bind_eq_some_iff] at h
     obtain ⟨y,h1,h2⟩:=h
     refine ⟨fun _=>⟨_,_,h2,?_⟩,_,_,h2⟩
     exact Meets.enter hx (Nat.le_of_ble_eq_true hb.2) (hok c (by simp) x y h1)
    | false=>
     simp only [cond_false,Option.bind_some] at h
     exact ⟨fun h=>absurd h (by decide),_,_,h⟩
   ·exact ih' h
@[reducible] noncomputable def cfg (P:Program) (n np:Nat) (calls:List CallE) (loops:List LoopE) (fuel:Nat) (ps:List CallP:=[]) (own:Bool:=false):Cfg:=
 { P:=P,own:=own,n:=n,np:=np,call:=aqr P ps calls,lam:=a6z P fuel loops }
theorem aac {P:Program}{n np:Nat}{calls:List CallE}{loops:List LoopE}{fuel:Nat}{ps:List CallP}{own:Bool} (h:∀ c,c∈calls->c.Ok P) (hp:∀ c,c∈ps->c.Ok P):aai (cfg P n np calls loops fuel ps own):=
 fun R b f as st K r hr=>ays (C:=cfg P n np calls loops fuel ps own) hp calls h R b f as st K r hr
theorem a3z {P:Program}:∀ c,c∈([]:List CallP)->c.Ok P:=fun c h=>by cases h
theorem callpC {P:Program}{c:CallP}{cs:List CallP} (h:c.Ok P) (hs:∀ c,c∈cs->c.Ok P):∀ d,d∈c::cs->d.Ok P:=by
 intro d hd
 rcases List.mem_cons.1 hd with rfl | hd
 ·exact h
 ·exact hs d hd
theorem a6i {P:Program}{n np:Nat}{calls:List CallE}{loops:List LoopE}{fuel:Nat} (h:∀ c,c∈calls->c.Ok P):aai (cfg P n np calls loops fuel):=aac h a3z
def lp (c:Code) (i:Nat):Code:=(aau c).getD i .skip
def aag (fn:Func):Code:=match fn.body with | some c=>c | none=>.skip
theorem a7a {C:Cfg}{c:Code} (h:(aau c).length=0):∀ b,b∈aau c->LoopOk C b:=by
 intro b hb
 cases hl:aau c with
 | nil=>rw [hl] at hb;cases hb
 | cons x r=>rw [hl] at h;cases h
theorem avv {C:Cfg}{c:Code} (n:Nat) (h:(aau c).length=n) (hi:∀ i,i<n->LoopOk C (lp c i)):∀ b,b∈aau c->LoopOk C b:=by
 intro b hb
 obtain ⟨i,hlt,rfl⟩:=List.mem_iff_getElem.1 hb
 have:=hi i (by omega)
 unfold lp at this
 rwa [List.getD_eq_getElem?_getD,List.getElem?_eq_getElem hlt] at this
theorem loopCut {C:Cfg}{body:Code} (h:∀ (R:Type) (e:Env) (st:List BX) (K:LEx->Env->List BX->Option R),C.lam R (ai1 body) e st K=none):LoopOk C body:=fun R e st K r hr=>by rw [h] at hr;cases hr
theorem a6q {P:Program}:∀ c,c∈([]:List CallE)->c.Ok P:=fun c h=>by cases h
theorem a6p {P:Program}{c:CallE}{cs:List CallE} (h:c.Ok P) (hs:∀ c,c∈cs->c.Ok P):∀ d,d∈c::cs->d.Ok P:=by
 intro d hd
 rcases List.mem_cons.1 hd with rfl | hd
 ·exact h
 ·exact hs d hd
theorem avw {C:Cfg} (hC:aai C) {f:FuncId}{fn:Func}{c:Code} (hf:C.P.funcs[f]?=some fn) (hb:fn.body=some c) (hn:fn.ntmps=C.n) (hname:(fn.name== "runtime.NumGoroutine")=false) (hL:∀ body,body∈aau c->LoopOk C body)
 {A R:AFrame}{F:A.ty->Option R.ty} (hF:∀ x,awr C fn (A.args x) (A.st x) (R.get C.P)=F x) (hlen:∀ x,(Nat.ble (A.args x).length C.n&&Nat.beq (A.st x).length C.np&&Nat.ble (A.st x).length R.bs.length)=true) (x:A.ty) (y:R.ty) (h:F x=some y):
 Meets C.P f (A.args x) (A.st x) (R.args y) (R.st y):=by
 have hl:=hlen x
 simp only [Bool.and_eq_true] at hl
 exact ah3 hC hf hb hn hname hL (r:=y) ((hF x).trans h) (Nat.le_of_ble_eq_true hl.1.1) (Nat.eq_of_beq_eq_true hl.1.2) (fun rs s hk D w ow μ v D' w' hp=>hp.leave hk (Nat.le_of_ble_eq_true hl.2))
def getP (P:Program) (R X:AFrame) (rs:List SV) (st:List BX):Option (R.ty⊕X.ty):=fork rs (aun (R.get P rs st)) (fun s=>aij (X.get P [s] st))
theorem a7d {C:Cfg} (hC:aai C) {f:FuncId}{fn:Func}{c:Code} (hf:C.P.funcs[f]?=some fn) (hb:fn.body=some c) (hn:fn.ntmps=C.n) (hname:(fn.name== "runtime.NumGoroutine")=false) (hL:∀ body,body∈aau c->LoopOk C body)
 {A R X:AFrame}{F:A.ty->Option (R.ty⊕X.ty)} (hF:∀ x,awr C fn (A.args x) (A.st x) (getP C.P R X)=F x) (hlen:∀ x,(Nat.ble (A.args x).length C.n&&Nat.beq (A.st x).length C.np&&Nat.ble (A.st x).length R.bs.length&&Nat.ble (A.st x).length X.bs.length)=true) (x:A.ty):
 (∀ (y:R.ty),F x=some (.inl y)->Meets C.P f (A.args x) (A.st x) (R.args y) (R.st y))/\∀ (y:X.ty),F x=some (.inr y)->Meets C.P f (A.args x) (A.st x) [.pan ((X.args y).headD .undef)] (X.st y):=by
 have hl:=hlen x
 simp only [Bool.and_eq_true] at hl
 refine ⟨fun y h=>ah3 hC hf hb hn hname hL (r:=.inl y) ((hF x).trans h) (Nat.le_of_ble_eq_true hl.1.1.1) (Nat.eq_of_beq_eq_true hl.1.1.2) (fun rs s hk D w ow μ v D' w' hp=>?_),fun y h=>ah3 hC hf hb hn hname hL (r:=.inr y) ((hF x).trans h) (Nat.le_of_ble_eq_true hl.1.1.1) (Nat.eq_of_beq_eq_true hl.1.1.2) (fun rs s hk D w ow μ v D' w' hp=>?_)⟩
 ·unfold getP at hk
  have hk2:=ad3 hk
  clear hk
  rcases hk2 with ⟨s0,rfl,hk⟩ | ⟨_,hk⟩
  ·simp only [aij] at hk;split at hk<;>cases hk
  ·simp only [aun] at hk
   split at hk
   ·rename_i z hz;cases hk;exact hp.leave hz (Nat.le_of_ble_eq_true hl.1.2)
   ·cases hk
 ·unfold getP at hk
  have hk2:=ad3 hk
  clear hk
  rcases hk2 with ⟨s0,rfl,hk⟩ | ⟨_,hk⟩
  ·simp only [aij] at hk
   split at hk
   ·rename_i z hz;cases hk;exact ⟨hp.leaveP hz (Nat.le_of_ble_eq_true hl.2),rfl⟩
   ·cases hk
  ·simp only [aun] at hk;split at hk<;>cases hk
end Go.Ab
namespace Go.Ab
open Go
set_option maxRecDepth 100000
def isT (o:Option Bool):Bool:=match o with | some true=>true | _=>false
theorem a2v {o:Option Bool} (h:isT o=true):o=some true:=by
 unfold isT at h
 split at h
 ·rfl
 ·cases h
noncomputable def limQ {σ τ:Type} (fuel:Nat) (G:Nat->σ->Option τ) (x:σ):Option τ:=
 match fuel with
 | 0=>open Classical in if h:∃ y,∃ N,∀ n,N<=n->G n x=some y then some (Classical.choose h) else none
 | n+1=>G (n+1) x
theorem az5 {σ τ:Type}{fuel:Nat}{G:Nat->σ->Option τ}{x:σ}{y:τ} (h:limQ fuel G x=some y):∃ n,G n x=some y:=by
 unfold limQ at h
 split at h
 ·split at h
  ·rename_i hh
   cases h
   obtain ⟨N,hN⟩:=Classical.choose_spec hh
   exact ⟨N,hN N (Nat.le_refl _)⟩
  ·cases h
 ·exact ⟨_,h⟩
theorem axa {σ τ:Type}{G:Nat->σ->Option τ}{x:σ}{y:τ} (N:Nat) (h:∀ n,N<=n->G n x=some y):limQ 0 G x=some y:=by
 have hh:∃ y,∃ N,∀ n,N<=n->G n x=some y:=⟨y,N,h⟩
 unfold limQ
 simp only [hh,dif_pos]
 obtain ⟨M,hM⟩:=Classical.choose_spec hh
 rw [<-hM (max N M) (Nat.le_max_right _ _),h (max N M) (Nat.le_max_left _ _)]
theorem a7l {P:Program} (E:CallE) {fuel:Nat}{G:Nat->E.A.ty->Option E.R.ty} (hF:∀ x,E.F x=limQ fuel G x) (h:∀ n,CallE.Ok P ⟨E.f,E.A,E.R,G n,E.dflt⟩):E.Ok P:=by
 intro x y hy
 rw [hF] at hy
 obtain ⟨n,hn⟩:=az5 hy
 exact h n x y hn
theorem av2 {P:Program}{f:FuncId}{A R:AFrame}{d:R.ty}:CallE.Ok P ⟨f,A,R,fun _=>none,d⟩:=fun x y h=>by cases h
theorem okE {P:Program}{E:CallE}{C:Cfg} (fn:Func) (hC:aai C) (hL:∀ b,b∈aau (aag fn)->LoopOk C b) (hP:C.P=P:=by kernel_rfl) (hf:C.P.funcs[E.f]?=some fn:=by kernel_rfl) (hb:fn.body=some (aag fn):=by kernel_rfl)
 (hn:fn.ntmps=C.n:=by kernel_rfl) (hname:(fn.name== "runtime.NumGoroutine")=false:=by kernel_rfl) (hF:∀ x,awr C fn (E.A.args x) (E.A.st x) (E.R.get C.P)=E.F x:=by intro x;kernel_rfl)
 (hlen:∀ x,(Nat.ble (E.A.args x).length C.n&&Nat.beq (E.A.st x).length C.np&&Nat.ble (E.A.st x).length E.R.bs.length)=true:=by intro x;kernel_rfl):E.Ok P:=by
 subst hP
 exact fun x y h=>avw hC hf hb hn hname hL hF hlen x y h
theorem okL {C:Cfg} (hC:aai C) {body:Code} (fuel:Nat) (l:LoopE) (hL:∀ b,b∈aau body->LoopOk C b) (hnp:(Nat.ble C.np l.H.bs.length&&npX C.np l.X)=true:=by kernel_rfl) (hstep:aou C body l:=by intro x;kernel_rfl)
 (hlam:∀ (R:Type) (e:Env) (st:List BX) (K:LEx->Env->List BX->Option R),C.lam R (ai1 body) e st K=(l.H.dec C.P e st).bind fun x=>(aaf fuel l.step x).bind fun y=>kX l.X y K:=by intro R e st K;kernel_rfl):LoopOk C body:=a0b hC fuel l hL hnp hstep hlam
theorem q0 {P:Program}:∀ c,c∈([]:List CallE)->c.Ok P:=a6q
theorem qc {P:Program}{c:CallE}{cs:List CallE} (h:c.Ok P) (hs:∀ c,c∈cs->c.Ok P):∀ d,d∈c::cs->d.Ok P:=a6p h hs
theorem L0 {C:Cfg}{c:Code} (h:(aau c).length=0:=by kernel_rfl):∀ b,b∈aau c->LoopOk C b:=a7a h
theorem L1 {C:Cfg}{c:Code} (a:LoopOk C (lp c 0)) (h:(aau c).length=1:=by kernel_rfl):∀ b,b∈aau c->LoopOk C b:=avv 1 h fun i hi=>by
 match i,hi with
 | 0,_=>exact a
theorem L2 {C:Cfg}{c:Code} (a:LoopOk C (lp c 0)) (b:LoopOk C (lp c 1)) (h:(aau c).length=2:=by kernel_rfl):∀ b,b∈aau c->LoopOk C b:=avv 2 h fun i hi=>by
 match i,hi with
 | 0,_=>exact a
 | 1,_=>exact b
theorem L3 {C:Cfg}{c:Code} (a:LoopOk C (lp c 0)) (b:LoopOk C (lp c 1)) (d:LoopOk C (lp c 2)) (h:(aau c).length=3:=by kernel_rfl):∀ b,b∈aau c->LoopOk C b:=avv 3 h fun i hi=>by
 match i,hi with
 | 0,_=>exact a
 | 1,_=>exact b
 | 2,_=>exact d
theorem L4 {C:Cfg}{c:Code} (a:LoopOk C (lp c 0)) (b:LoopOk C (lp c 1)) (d:LoopOk C (lp c 2)) (e:LoopOk C (lp c 3)) (h:(aau c).length=4:=by kernel_rfl):∀ b,b∈aau c->LoopOk C b:=avv 4 h fun i hi=>by
 match i,hi with
 | 0,_=>exact a
 | 1,_=>exact b
 | 2,_=>exact d
 | 3,_=>exact e
theorem p0 {P:Program}:∀ c,c∈([]:List CallP)->c.Ok P:=a3z
theorem okJ {P:Program}{E:CallE} (fn:Func) (n np fuel:Nat) (calls:List CallE) (ps:List CallP) (own:Bool) (h:∀ c,c∈calls->c.Ok P) (hp:∀ c,c∈ps->c.Ok P) (hL:∀ b,b∈aau (aag fn)->LoopOk (cfg P n np calls [] fuel ps own) b) (hf:P.funcs[E.f]?=some fn:=by kernel_rfl) (hb:fn.body=some (aag fn):=by kernel_rfl)
 (hn:fn.ntmps=n:=by kernel_rfl) (hname:(fn.name== "runtime.NumGoroutine")=false:=by kernel_rfl) (hF:∀ x,awr (cfg P n np calls [] fuel ps own) fn (E.A.args x) (E.A.st x) (E.R.get P)=E.F x:=by intro x;kernel_rfl)
 (hlen:∀ x,(Nat.ble (E.A.args x).length n&&Nat.beq (E.A.st x).length np&&Nat.ble (E.A.st x).length E.R.bs.length)=true:=by intro x;kernel_rfl):E.Ok P:=fun x y h2=>avw (aac h hp) hf hb hn hname hL hF hlen x y h2
end Go.Ab
namespace Go.Ab
open Go
open Go.ChangeMaps (setBlock)
def aeo:Code->Option (Nat×Operand)
 | .region _ ops draw=>
  match draw,ops.toList with
  | false,o::_=>(match o.op,o.dst,o.guard with | .next x false,some d,none=>some (d,x) | _,_,_=>none)
  | _,_=>none
 | .seq a _=>aeo a
 | _=>none
def am1 (ops:Array Oper):Array Oper:=match ops.toList with | o::r=>({ o with op:=.move (.tmp (o.dst.getD 0)) }::r).toArray | []=>ops
def ady:Code->Code
 | .region id ops draw=>.region id (am1 ops) draw
 | .seq a b=>.seq (ady a) b
 | c=>c
theorem aul (ops:Array Oper) (j:Nat):((am1 ops)[j]?).bind (·.dst)=(ops[j]?).bind (·.dst):=by
 unfold am1
 split
 ·rename_i o r h
  have e:ops=(o::r).toArray:=by rw [<-h]
  rw [e]
  cases j with
  | zero=>simp
  | succ j=>simp
 ·rfl
theorem asc {R:Type}{C:Cfg}{ops ops':Array Oper} (h:∀ (j:Nat),(ops'[j]?).bind (fun (o:Oper)=>o.dst)=(ops[j]?).bind (fun (o:Oper)=>o.dst)):∀ (l:List Oper) (e:Env) (st:List BX) (K:Env->List BX->Option R) (X:SV->List BX->Option R),ah0 C ops' l e st K X=ah0 C ops l e st K X:=by
 intro l
 induction l with
 | nil=>intro e st K X;rfl
 | cons o r ih=>
  intro e st K X
  simp only [ah0]
  have hK:(fun e st=>ah0 C ops' r e st K X)=fun e st=>ah0 C ops r e st K X:=by funext e st;exact ih e st K X
  rw [hK]
  unfold a04
  cases o.guard with
  | none=>rfl
  | some g=>obtain ⟨j,want⟩:=g;simp only;rw [h j]
theorem Env.set_same {e:Env}{d:Nat}{v:SV} (h:e d=v):e.set d v=e:=by
 funext t
 unfold Env.set
 cases hb:Nat.beq t d with
 | true=>have:=Nat.eq_of_beq_eq_true hb;subst this;exact h.symm
 | false=>rfl
theorem a3h {e:Env} (hg:NoGd e) (d:Nat):opd e [] (.tmp d)=e d:=by
 simp only [opd,rd]
 split
 ·rename_i t w v h;exact absurd h (hg d t w v)
 ·rfl
theorem ay4 {Γ:Ctx}{R:Type}{C:Cfg} (hC:aai C) (hP:C.P=Γ.P) (hn:Γ.n=C.n) (hnp:Γ.np=C.np) (r:R):∀ (c:Code) (d:Nat) (x:Operand),aeo c=some (d,x)->(∀ body,body∈aau c->LoopOk C body)->∀ (K:Ks R) (e:Env) (st:List BX),exec C (ady c) K e st=some r->
 ∀ (Q:Exit->Act->World->Prop),(∀ e' st' a' w',K.norm e' st'=some r->NoGd e'->Rel Γ e' st' a' w'->Q .normal a' w')->(∀ i e' st' a' w',K.exit i e' st'=some r->NoGd e'->Rel Γ e' st' a' w'->Q (.exit i) a' w')->
  (∀ e' st' a' w',K.ret e' st'=some r->NoGd e'->Rel Γ e' st' a' w'->Q .ret a' w')->(∀ s st' v a' w',K.pan s st'=some r->PRel Γ s st' v a' w'->Q (.panic [{ v,recovered:=false }]) a' w')->
  ∀ (a:Act) (w:World) (u:Value) (w1:World),(∀ ty,(Instr.next (a.eval x) false ty).run Γ.P w=.ok u w1)->Rel Γ e st (a.put (some d) u) w1->NoGd e->c.wp Γ.P Q a w:=by
 intro c
 induction c with
 | region id ops draw=>
  intro d x hh _ K e st h Q h1 h2 h3 h4 a w u w1 hrun hrel hg
  cases draw with
  | true=>simp [aeo] at hh
  | false=>
   cases hl:ops.toList with
   | nil=>simp [aeo,hl] at hh
   | cons o rest=>
    simp only [aeo,hl] at hh
    split at hh
    ·rename_i y d' hop hdst hguard
     cases hh
     have es:am1 ops=({ o with op:=.move (.tmp d) }::rest).toArray:=by unfold am1;rw [hl];simp [hdst]
     unfold ady exec runR at h
     simp only [cond_false,es] at h
     simp only [ah0,a04,hguard,ac] at h
     have hd:akz C.n o.dst=true:=by
      cases hd:akz C.n o.dst with
      | true=>rfl
      | false=>simp [hd] at h
     rw [hd] at h
     simp only [cond_true,hdst,put] at h
     have eset:e.set d (opd e [] (.tmp d))=e:=Env.set_same (a3h hg d).symm
     rw [eset] at h
     have hcg:∀ (j:Nat),((({ o with op:=.move (.tmp d) }::rest:List Oper).toArray)[j]?).bind (fun (o:Oper)=>o.dst)=(ops[j]?).bind (fun (o:Oper)=>o.dst):=by rw [<-es];exact aul ops
     simp only [hdst,hguard] at hcg
     rw [asc (ops:=ops) hcg] at h
     have hdrop:ops.toList.drop 1=rest:=by rw [hl];rfl
     have hrest:=akw hC hP hn hnp (ops:=ops) (Q:=Q) (fun e' st' a' w' hk hrel'=>h1 _ _ a' w' hk (NoGd.sweep e') hrel'.sweep) h4 rest 1 hdrop e st h (a.put (some d) u) w1 hrel (hg.inv _)
     refine wp_region ?_
     have hsize:ops.size=rest.length+1:=by rw [<-Array.length_toList,hl];rfl
     have ho:ops[0]?=some o:=by
      have:ops.toList[0]?=some o:=by rw [hl];rfl
      simpa using this
     have hr:List.range ops.size=0::List.range' 1 rest.length:=by rw [hsize,List.range_eq_range',List.range'_succ]
     rw [hr,wpOps_cons]
     unfold wpOp
     rw [ho]
     have hw:Region.wanted o (yielded ops a.tmps)=true:=by simp [Region.wanted,hguard]
     simp only [hw,if_true]
     refine Or.inl ?_
     unfold Oper.wp execOp
     simp only [hop,Sem.run_bind,hrun,Result.andThen_ok,Sem.run_pure,Oper.upon_value,hdst]
     exact hrest
    ·cases hh
 | seq p q ihp _=>
  intro d x hh hL K e st h Q h1 h2 h3 h4 a w u w1 hrun hrel hg
  simp only [ady] at h
  unfold exec at h
  have hL2:∀ b,b∈aau q->LoopOk C b:=fun b hb=>hL b (by simp [aau,hb])
  refine wp_seq (ihp d x hh (fun b hb=>hL b (by simp [aau,hb])) _ e st h (Exit.then (q.wp Γ.P Q) Q) (fun e' st' a' w' hk hg' hrel'=>?_) h2 h3 h4 a w u w1 hrun hrel hg)
  exact aj5 hC hP hn hnp r q hL2 K e' st' hk Q h1 h2 h3 h4 a' w' hrel' hg'
 | _=>intro d x hh;simp [aeo] at hh
section
variable {Γ:Ctx}{D:Dom}{ow:Own}{μ:Nat->Nat}{st:List BX}{w:World}
theorem WRel.setMit (hw:WRel Γ D ow μ st w) {k:Nat}{K E:TypeId}{c c':Option (PV×PV)}{es es':List (PV×PV)} (hk:st[k]?=some (.mit K E c es)) {w':World}
 (hh:au3 Γ.P D w' ow μ k K E c' es') (ho:∀ b,b≠μ k->w'.heap[b]?=w.heap[b]?) (hsz:w'.heap.size=w.heap.size) (hos:w'.os=w.os) (htp:w'.tape=w.tape) (hou:w'.output=w.output):
 WRel Γ D ow μ (st.set k (.mit K E c' es')) w'/\Moves D w ow μ st D w' ow μ (st.set k (.mit K E c' es')):=by
 have hlt:=(List.getElem?_eq_some_iff.1 hk).1
 obtain ⟨b4,b3,_⟩:=hw.obj k _ hk
 have ne:∀ {j:Nat}{y:BX},st[j]?=some y->j≠k->(st.set k (.mit K E c' es'))[j]?=some y:=fun e hj=>by rw [List.getElem?_set_ne (by omega)];exact e
 have same:(st.set k (.mit K E c' es'))[k]?=some (.mit K E c' es'):=by rw [List.getElem?_set_self hlt]
 have hkp:Keeps D w w':=Keeps.of_heap fun b o d=>ho b (fun e=>by subst e;exact b4 o d)
 have m:Moves D w ow μ st D w' ow μ (st.set k (.mit K E c' es')):=by
  refine ⟨fun _ _ d=>d,hkp,fun j T x e=>⟨rfl,x,?_⟩,fun j K E es e=>⟨rfl,es,?_⟩,fun j b e hs=>⟨rfl,?_⟩,fun j E g xs e=>?_,fun j g e=>?_⟩
  ·by_cases hj:j=k
   ·subst hj;rw [hk] at e;cases e
   ·exact ne e hj
  ·by_cases hj:j=k
   ·subst hj;rw [hk] at e;cases e
   ·exact ne e hj
  ·by_cases hj:j=k
   ·subst hj;rw [hk] at e;cases e;exact ⟨_,same,rfl⟩
   ·exact ⟨_,ne e hj,rfl⟩
  ·by_cases hj:j=k
   ·subst hj;rw [hk] at e;cases e
   ·refine ⟨g,xs,ne e hj,Nat.le_refl _,fun _=>⟨rfl,fun cur hc hoj=>⟨rfl,hoj,cur,(ho _ (fun hmu=>?_)).trans hc,rfl⟩⟩⟩
    rw [hmu,b3] at hoj;cases hoj;exact hj rfl
  ·by_cases hj:j=k
   ·subst hj;rw [hk] at e;cases e
   ·refine ⟨g,ne e hj,Nat.le_refl _,fun _ b ob=>⟨ho b (fun hb=>?_),ob,fun _ d=>d⟩⟩
    subst hb;rw [b3] at ob;cases ob;exact hj rfl
 have par':∀ j,j<Γ.np->∃ b,(st.set k (.mit K E c' es'))[j]?=some b/\b.kind=Γ.K0 j:=by
  intro j hj
  obtain ⟨x,hx,p1⟩:=hw.par j hj
  by_cases hjk:j=k
  ·subst hjk;rw [hk] at hx;cases hx;exact ⟨_,same,p1⟩
  ·exact ⟨x,ne hx hjk,p1⟩
 refine ⟨⟨fun j T x e=>?_,fun j K E es e=>?_,fun j x e=>?_,fun b j o=>?_,fun b o d=>by rw [hsz];exact hw.dlt b o d,hos.trans hw.os,htp.trans hw.tape,hou.trans hw.output,by rw [hsz];exact hw.hs,fun b hb hn=>?_,hw.dom0,hw.domN,hw.owN,by simpa using hw.np,hw.mu0,par',fun b j y ob e hy o d=>?_,hw.keep0.trans m.keeps hw.dom0,hw.arr0_moves m par'⟩,m⟩
 ·by_cases hj:j=k
  ·subst hj;rw [same] at e;cases e
  ·rw [List.getElem?_set_ne (by omega)] at e
   obtain ⟨c,T1,q1,q2,q3,q4,q5⟩:=hw.box j T x e
   have hne:μ j≠μ k:=fun hmu=>by rw [hmu,b3] at q3;cases q3;exact hj rfl
   exact BoxRep.mono ⟨c,T1,q1,q2,q3,q4,q5⟩ m rfl (ho _ hne) q3 q4
 ·by_cases hj:j=k
  ·subst hj;rw [same] at e;cases e
  ·rw [List.getElem?_set_ne (by omega)] at e
   obtain ⟨ents,clock,kc,vc,q1,q2,q3⟩:=hw.map j K E es e
   have hne:μ j≠μ k:=fun hmu=>by rw [hmu,b3] at q2;cases q2;exact hj rfl
   exact OMapRep.mono ⟨ents,clock,kc,vc,q1,q2,q3⟩ m.dom m.keeps rfl (ho _ hne) q2 q3.1
 ·by_cases hj:j=k
  ·subst hj;rw [same] at e;cases e;exact hh
  ·rw [List.getElem?_set_ne (by omega)] at e
   refine (hw.obj j x e).mono m.dom m.keeps (fun _=>rfl) (fun c oc=>⟨ho c (fun hb=>?_),oc,fun _ d=>d⟩)
   subst hb;rw [b3] at oc;cases oc;exact hj rfl
 ·have:=hw.owlt b j o
  rw [hsz];simpa using this
 ·by_cases hbk:b=μ k
  ·subst hbk
   have:=hw.owN _ _ b3 hb
   rw [hn] at this;cases this
  ·exact (ho b hbk).trans (hw.old b hb hn)
 ·by_cases hj:j=k
  ·subst hj;exact hw.lone b j _ ob hk (by simp) o d
  ·rw [List.getElem?_set_ne (by omega)] at e
   exact hw.lone b j y ob e hy o d
theorem aq7 {α:Type} (f:α->Nat):∀ (l:List α) (i:Nat) (x:α),l[i]?=some x->(∀ (a b:Nat) (y z:α),l[a]?=some y->l[b]?=some z->f y=f z->a=b)->l.filter (fun y=>!(f y==f x))=l.eraseIdx i:=by
 intro l
 induction l with
 | nil=>intro i x h;simp at h
 | cons y r ih=>
  intro i x h hd
  have hd':∀ (a b:Nat) (y z:α),r[a]?=some y->r[b]?=some z->f y=f z->a=b:=fun a b y z h1 h2 e=>by have:=hd (a+1) (b+1) y z (by simpa using h1) (by simpa using h2) e;omega
  cases i with
  | zero=>
   simp at h;subst h
   simp only [List.eraseIdx_zero,List.tail_cons]
   rw [List.filter_cons_of_neg (by simp)]
   rw [List.filter_eq_self]
   intro z hz
   obtain ⟨j,hj⟩:=List.mem_iff_getElem?.1 hz
   simp only [Bool.not_eq_true',beq_eq_false_iff_ne,ne_eq]
   intro e
   have:=hd (j+1) 0 z y (by simpa using hj) (by simp) e
   omega
  | succ i=>
   have hne:f y≠f x:=fun e=>by have:=hd 0 (i+1) y x (by simp) h e;omega
   rw [List.filter_cons_of_pos (by simp [hne]),List.eraseIdx_cons_succ,ih i x (by simpa using h) hd']
theorem az3 {ents:Array MapEntry}{seen:Array Nat}{clock i:Nat}{e:MapEntry} (hb:BornOk ents clock) (he:(leftOf ents seen)[i]?=some e):(leftOf ents (seen.push e.born)).toList=(leftOf ents seen).toList.eraseIdx i:=by
 have hd:∀ (a b:Nat) (y z:MapEntry),(leftOf ents seen).toList[a]?=some y->(leftOf ents seen).toList[b]?=some z->y.born=z.born->a=b:=by
  have hp:ents.toList.Pairwise (fun y z=>y.born≠z.born):=by
   rw [List.pairwise_iff_getElem]
   intro a b ha hb' hab e
   have:=hb.2 a b ents.toList[a] ents.toList[b] (by simp) (by simp) e
   omega
  have hq:(leftOf ents seen).toList.Pairwise (fun y z=>y.born≠z.born):=by
   unfold leftOf;rw [Array.toList_filter];exact hp.filter _
  rw [List.pairwise_iff_getElem] at hq
  intro a b y z ha hb' e
  obtain ⟨ha1,ha2⟩:=List.getElem?_eq_some_iff.1 ha
  obtain ⟨hb1,hb2⟩:=List.getElem?_eq_some_iff.1 hb'
  rcases Nat.lt_trichotomy a b with h | h | h
  ·exact absurd (by rw [ha2,hb2];exact e) (hq a b ha1 hb1 h)
  ·exact h
  ·exact absurd (by rw [ha2,hb2];exact e.symm) (hq b a hb1 ha1 h)
 rw [<-aq7 (fun e=>e.born) _ i e (by simpa using he) hd]
 unfold leftOf
 rw [Array.toList_filter,Array.toList_filter,List.filter_filter]
 congr 1
 funext y
 simp only [Array.contains_push,Bool.not_or]
 rw [Bool.and_comm]
def ajs (P:Program) (K E:TypeId) (x:Option (PV×PV)):SV:=match x with | some x=>.tup [.bool true,ofPV P K x.1,ofPV P E x.2] | none=>.tup [.bool false]
theorem avx (hw:WRel Γ D ow μ st w) {k:Nat}{K E:TypeId}{c:Option (PV×PV)}{es:List (PV×PV)} (hk:st[k]?=some (.mit K E c es)):
 ∃ (u:Value) (w1:World),(∀ ty,(Instr.next (.pointer (some ⟨μ k,0,none⟩)) false ty).run Γ.P w=.ok u w1)/\
  ((es=[]/\w1=w/\SRep Γ.P D w ow μ st (ajs Γ.P K E none) u)∨
    ∃ (i:Nat) (x:PV×PV),es[i]?=some x/\WRel Γ D ow μ (st.set k (.mit K E (some x) (es.eraseIdx i))) w1/\Moves D w ow μ st D w1 ow μ (st.set k (.mit K E (some x) (es.eraseIdx i)))/\SRep Γ.P D w1 ow μ (st.set k (.mit K E (some x) (es.eraseIdx i))) (ajs Γ.P K E (some x)) u):=by
 obtain ⟨b4,b3,m,since,c0,seen,hh,hm,_⟩:=hw.obj k _ hk
 have over:SRep Γ.P D w ow μ st (ajs Γ.P K E none) (.tuple #[.bool false]):=.tup rfl (fun i s v hs hv=>by
  match i,hs,hv with
  | 0,hs,hv=>simp at hs hv;subst hs;subst hv;exact .bool)
 rcases hm with ⟨rfl,rfl⟩ | ⟨r,clock,ents,kc,vc,rfl,hd,hr,rfl,hc,hb,hs,r1,r2,r3⟩
 ·exact ⟨.tuple #[.bool false],w,fun ty=>by simp [Instr.next,getObj,Sem.run,hh],Or.inl ⟨rfl,rfl,over⟩⟩
 ·have hold:∀ x∈ents.toList,x.born<since:=by
   intro x hx
   obtain ⟨i,hi⟩:=List.mem_iff_getElem?.1 hx
   exact hb.1 i x (by simpa using hi)
  have hrun:=fun ty=>run_next_at (P:=Γ.P) w ty (μ k) r since c0 seen ents since hh hr hold hc
  by_cases h0:(leftOf ents seen).size=0
  ·have he:es=[]:=List.length_eq_zero_iff.1 (by omega)
   subst he
   refine ⟨.tuple #[.bool false],w,fun ty=>?_,Or.inl ⟨rfl,rfl,over⟩⟩
   rcases hrun ty with ⟨_,h⟩ | ⟨e,h,_⟩
   ·exact h
   ·have:=List.length_pos_of_mem h
    simp at this;omega
  ·rcases hrun 0 with ⟨h,_⟩ | ⟨e,hmem,w1,hal,hq⟩
   ·exact absurd h h0
   ·obtain ⟨i,hi⟩:=List.mem_iff_getElem?.1 hmem
    have hi':(leftOf ents seen)[i]?=some e:=by simpa using hi
    have hil:i<es.length:=by have:=(List.getElem?_eq_some_iff.1 hi).1;simp at this;omega
    have hx:es[i]?=some es[i]:=List.getElem?_eq_getElem hil
    refine ⟨.tuple #[.bool true,e.key,e.val],setBlock w1 (μ k) (.mapIter (some r) since (seen.push e.born) since),fun ty=>?_,Or.inr ⟨i,es[i],hx,?_⟩⟩
    ·exact (show (Instr.next (.pointer (some ⟨μ k,0,none⟩)) false ty).run Γ.P w=(Instr.next (.pointer (some ⟨μ k,0,none⟩)) false 0).run Γ.P w from rfl).trans hq
    ·have hlt:μ k<w.heap.size:=(hw.owlt _ _ b3).1
     have hw1:w1.heap=w.heap/\w1.os=w.os/\w1.tape=w.tape/\w1.output=w.output:=by rcases hal with rfl | rfl<;>exact ⟨rfl,rfl,rfl,rfl⟩
     have hrk:r≠μ k:=fun e=>b4 0 (by rw [<-e];exact hd)
     have hnew:(setBlock w1 (μ k) (.mapIter (some r) since (seen.push e.born) since)).heap[μ k]?=some (.mapIter (some r) since (seen.push e.born) since):=by simp [setBlock,hw1.1,hlt]
     have hother:∀ b,b≠μ k->(setBlock w1 (μ k) (.mapIter (some r) since (seen.push e.born) since)).heap[b]?=w.heap[b]?:=fun b hb=>by
      show (w1.heap.setIfInBounds (μ k) _)[b]?=_
      rw [Array.getElem?_setIfInBounds_ne (fun e=>hb e.symm),hw1.1]
     have hkp:Keeps D w (setBlock w1 (μ k) (.mapIter (some r) since (seen.push e.born) since)):=Keeps.of_heap fun b o d=>hother b (fun e=>by subst e;exact b4 o d)
     have hle:=az3 hb hi'
     have hget:∀ (j:Nat),(leftOf ents (seen.push e.born))[j]?=if j<i then (leftOf ents seen)[j]? else (leftOf ents seen)[j+1]?:=by
      intro j
      rw [<-Array.getElem?_toList,hle,List.getElem?_eraseIdx]
      simp
     have hgetE:∀ (j:Nat),(es.eraseIdx i)[j]?=if j<i then es[j]? else es[j+1]?:=fun j=>List.getElem?_eraseIdx
     have hmit:au3 Γ.P D (setBlock w1 (μ k) (.mapIter (some r) since (seen.push e.born) since)) ow μ k K E (some es[i]) (es.eraseIdx i):=by
      refine ⟨b4,b3,some r,since,since,seen.push e.born,hnew,Or.inr ⟨r,since,ents,fun j=>if j<i then kc j else kc (j+1),fun j=>if j<i then vc j else vc (j+1),rfl,hd,(hother r hrk).trans hr,rfl,Nat.le_refl _,hb,?_,fun j x hj=>?_,fun j x hj=>?_,fun j f hj=>?_⟩,fun e0 he0=>?_⟩
      ·rw [<-Array.length_toList,hle,List.length_eraseIdx,List.length_eraseIdx,if_pos hil,if_pos (by simp;omega)]
       simp;omega
      ·rw [hgetE] at hj
       by_cases hji:j<i
       ·rw [if_pos hji] at hj;simp only [hji,if_true];exact (r1 j x hj).mono (fun _ _ d=>d) hkp
       ·rw [if_neg hji] at hj;simp only [hji,if_false];exact (r1 _ x hj).mono (fun _ _ d=>d) hkp
      ·rw [hgetE] at hj
       by_cases hji:j<i
       ·rw [if_pos hji] at hj;simp only [hji,if_true];exact (r2 j x hj).mono (fun _ _ d=>d) hkp
       ·rw [if_neg hji] at hj;simp only [hji,if_false];exact (r2 _ x hj).mono (fun _ _ d=>d) hkp
      ·rw [hget] at hj
       by_cases hji:j<i
       ·rw [if_pos hji] at hj;simp only [hji,if_true];exact r3 j f hj
       ·rw [if_neg hji] at hj;simp only [hji,if_false];exact r3 _ f hj
      ·cases he0
       obtain ⟨ek,ev⟩:=r3 i e hi'
       have hme:e∈ents.toList:=by
        have:=List.mem_of_getElem? hi
        unfold leftOf at this
        rw [Array.toList_filter] at this
        exact (List.mem_filter.1 this).1
       refine ⟨r,ents,e,kc i,vc i,rfl,hd,(hother r hrk).trans hr,by simp,?_,(r1 i _ hx).mono (fun _ _ d=>d) hkp,(r2 i _ hx).mono (fun _ _ d=>d) hkp,ek,ev⟩
       obtain ⟨a,ha⟩:=List.mem_iff_getElem?.1 hme
       cases hf:ents.find? (fun x=>x.born==e.born) with
       | none=>
        have:=Array.find?_eq_none.1 hf e (Array.mem_toList_iff.1 hme)
        simp at this
       | some f=>
        have hfm:=Array.mem_of_find?_eq_some hf
        have hfb:=Array.find?_some hf
        obtain ⟨b,hb2⟩:=Array.mem_iff_getElem?.1 hfm
        have:a=b:=hb.2 a b e f (by simpa using ha) hb2 (by simpa using (beq_iff_eq.1 hfb).symm)
        subst this
        rw [show ents[a]?=some e by simpa using ha] at hb2
        rw [hb2]
     obtain ⟨u1,u2⟩:=hw.setMit hk hmit hother (by simp [setBlock,hw1.1]) hw1.2.1 hw1.2.2.1 hw1.2.2.2
     refine ⟨u1,u2,?_⟩
     obtain ⟨ek,ev⟩:=r3 i e hi'
     refine .tup rfl (fun j s v hs hv=>?_)
     match j,hs,hv with
     | 0,hs,hv=>simp at hs hv;subst hs;subst hv;exact .bool
     | 1,hs,hv=>
      simp at hs hv;subst hs;subst hv
      rw [ek];exact ((r1 i _ hx).mono (fun _ _ d=>d) hkp).ofPV
     | 2,hs,hv=>
      simp at hs hv;subst hs;subst hv
      rw [ev];exact ((r2 i _ hx).mono (fun _ _ d=>d) hkp).ofPV
end
def mend {σ τ:Type} (rem:σ->List (PV×PV)) (go:PV×PV->List (PV×PV)->σ->Option (σ⊕τ)) (fin:σ->Option (σ⊕τ)):Nat->σ->(τ->Prop)->Prop
 | 0,x,S=>rem x=[]/\∃ y,fin x=some (.inr y)/\S y
 | n+1,x,S=>(rem x).length=n+1/\∀ (i:Nat) (e:PV×PV),(rem x)[i]?=some e->(∃ x',go e ((rem x).eraseIdx i) x=some (.inl x')/\mend rem go fin n x' S)∨∃ y,go e ((rem x).eraseIdx i) x=some (.inr y)/\S y
def endA {σ τ R:Type} (rem:σ->List (PV×PV)) (fin:σ->Option (σ⊕τ)) (x:σ) (K:τ->Option R):Option R:=match rem x,fin x with | [],some (.inr y)=>K y | _,_=>none
def a4f {σ τ R:Type} (rem:σ->List (PV×PV)) (go:PV×PV->List (PV×PV)->σ->Option (σ⊕τ)) (fin:σ->Option (σ⊕τ)) (x:σ) (K:τ->Option R):Option R:=
 match rem x with
 | []=>endA rem fin x K
 | [e]=>(match go e [] x with | some (.inl x')=>endA rem fin x' K | some (.inr y)=>K y | none=>none)
 | _=>none
open Classical in
noncomputable def a0a {σ τ R:Type} (fuel:Nat) (rem:σ->List (PV×PV)) (go:PV×PV->List (PV×PV)->σ->Option (σ⊕τ)) (fin:σ->Option (σ⊕τ)) (x:σ) (K:τ->Option R):Option R:=
 match fuel with
 | 0=>if h:∃ r,mend rem go fin (rem x).length x (fun y=>K y=some r) then some h.choose else none
 | _+1=>a4f rem go fin x K
theorem aq2 {σ τ R:Type}{rem:σ->List (PV×PV)}{go:PV×PV->List (PV×PV)->σ->Option (σ⊕τ)}{fin:σ->Option (σ⊕τ)}{x:σ}{K:τ->Option R}{r:R} (h:endA rem fin x K=some r):mend rem go fin 0 x (fun y=>K y=some r):=by
 unfold endA at h
 split at h
 ·rename_i y h1 h2;exact ⟨h1,y,h2,h⟩
 ·cases h
theorem axd {σ τ R:Type}{fuel:Nat}{rem:σ->List (PV×PV)}{go:PV×PV->List (PV×PV)->σ->Option (σ⊕τ)}{fin:σ->Option (σ⊕τ)}{x:σ}{K:τ->Option R}{r:R} (h:a0a fuel rem go fin x K=some r):mend rem go fin (rem x).length x (fun y=>K y=some r):=by
 unfold a0a at h
 split at h
 ·split at h
  ·rename_i hh;cases h;exact hh.choose_spec
  ·cases h
 ·unfold a4f at h
  split at h
  ·rename_i hr;rw [hr];exact aq2 h
  ·rename_i e hr
   rw [hr]
   refine ⟨by rw [hr];rfl,fun i e' hi=>?_⟩
   rw [hr] at hi ⊢
   match i,hi with
   | 0,hi=>
    simp at hi;subst hi
    show (∃ x',go e [] x=_/\_)∨∃ y,go e [] x=_/\_
    split at h
    ·rename_i x' hx';exact Or.inl ⟨x',hx',aq2 h⟩
    ·rename_i z hz;exact Or.inr ⟨z,hz,h⟩
    ·cases h
  ·cases h
structure LoopM where
 key:Nat
 H:Frame
 X:List (LEx×Frame)
 rem:H.ty->List (PV×PV)
 go:PV×PV->List (PV×PV)->H.ty->Option (H.ty⊕XTy X)
 fin:H.ty->Option (H.ty⊕XTy X)
def anw (P:Program) (H:Frame) (X:List (LEx×Frame)):Ks (H.ty⊕XTy X):=
 { norm:=fun e st=>aun (H.dec P e st),exit:=fun i e st=>aij (decX P X (.exit i) e st),ret:=fun e st=>aij (decX P X .ret e st),pan:=fun s st=>aij (decX P X .pan (fun t=>bif Nat.beq t 0 then s else .undef) st) }
theorem atr {C:Cfg} (hC:aai C) {body:Code}{d t k:Nat}{K E:TypeId} (hh:aeo body=some (d,.tmp t)) (hd:Nat.blt d C.n=true) (l:LoopM) (hL:∀ b,b∈aau body->LoopOk C b) (hnp:Nat.ble C.np l.H.bs.length=true) (hX:npX C.np l.X=true)
 (hit:∀ x,l.H.env x t=.mitr k) (hrem:∀ x,(l.H.st x)[k]?=some (.mit K E none (l.rem x)))
 (hgo:∀ e es x,exec C (ady body) (anw C.P l.H l.X) ((l.H.env x).set d (ajs C.P K E (some e))) ((l.H.st x).set k (.mit K E (some e) es))=l.go e es x)
 (hfin:∀ x,exec C (ady body) (anw C.P l.H l.X) ((l.H.env x).set d (ajs C.P K E none)) ((l.H.st x).set k (.mit K E none []))=l.fin x):
 ∀ (n:Nat) (x:l.H.ty) (S:XTy l.X->Prop),mend l.rem l.go l.fin n x S->∀ (Γ:Ctx),Γ.P=C.P->Γ.n=C.n->Γ.np=C.np->∀ (Q:Exit->Act->World->Prop) (a:Act) (w:World),Rel Γ (l.H.env x) (l.H.st x) a w->NoGd (l.H.env x)->
  (∀ y,S y->au1 Γ (exX l.X y) (envX l.X y) (stX l.X y) Q)->Code.rounds C.P body Q (n+1) a w:=by
 have go1:∀ (n:Nat) (S:XTy l.X->Prop) (r:l.H.ty⊕XTy l.X) (e1:Env) (st1:List BX),exec C (ady body) (anw C.P l.H l.X) e1 st1=some r->
  ∀ (Γ:Ctx),Γ.P=C.P->Γ.n=C.n->Γ.np=C.np->∀ (Q:Exit->Act->World->Prop) (a:Act) (w:World) (u:Value) (w1:World),
  (∀ x',r=.inl x'->∀ (a2:Act) (w2:World),Rel Γ (l.H.env x') (l.H.st x') a2 w2->Code.rounds C.P body Q n a2 w2)->(∀ z,r=.inr z->S z)->
  (∀ ty,(Instr.next (a.eval (.tmp t)) false ty).run Γ.P w=.ok u w1)->Rel Γ e1 st1 (a.put (some d) u) w1->NoGd e1->(∀ y,S y->au1 Γ (exX l.X y) (envX l.X y) (stX l.X y) Q)->
  body.wp Γ.P (Exit.then (Code.rounds C.P body Q n) Q) a w:=by
  intro n S r e1 st1 hr Γ hP hn hnp' Q a w u w1 hinl hinr hrun hrel hg hQ
  refine ay4 hC hP.symm hn hnp' r body d (.tmp t) hh hL (anw C.P l.H l.X) e1 st1 hr (Exit.then (Code.rounds C.P body Q n) Q) (fun e2 st2 a2 w2 hk hg2 hr2=>?_) (fun i e2 st2 a2 w2 hk hg2 hr2=>?_) (fun e2 st2 a2 w2 hk hg2 hr2=>?_) (fun s2 st2 v2 a2 w2 hk hp=>?_) a w u w1 hrun hrel hg
  ·simp only [anw,aun] at hk
   split at hk
   ·rename_i x1 h1
    cases hk
    exact hinl x1 rfl a2 w2 (Frame.dec_sound hP (by rw [hnp'];exact Nat.le_of_ble_eq_true hnp) h1 hr2)
   ·cases hk
  ·simp only [anw,aij] at hk
   split at hk
   ·rename_i z hk'
    cases hk
    have hq:=hQ z (hinr z rfl)
    have he:=aj3 l.X z hk'
    have hle:=(ag6 (a:=a2) (w:=w2) hP l.X z (by rw [hnp'];exact hX) hk').2
    rw [he] at hq
    exact hq a2 w2 (hle hr2)
   ·cases hk
  ·simp only [anw,aij] at hk
   split at hk
   ·rename_i z hk'
    cases hk
    have hq:=hQ z (hinr z rfl)
    have he:=aj3 l.X z hk'
    have hle:=(ag6 (a:=a2) (w:=w2) hP l.X z (by rw [hnp'];exact hX) hk').2
    rw [he] at hq
    exact hq a2 w2 (hle hr2)
   ·cases hk
  ·simp only [anw,aij] at hk
   split at hk
   ·rename_i z hk'
    cases hk
    have hq:=hQ z (hinr z rfl)
    have he:=aj3 l.X z hk'
    have hle:=(avb (a:=a2) (w:=w2) (v0:=v2) hP l.X z (by rw [hnp'];exact hX) hk').2 hp
    rw [he] at hq
    exact hq v2 a2 w2 hle
   ·cases hk
 intro n
 induction n with
 | zero=>
  intro x S hm Γ hP hn hnp' Q a w hrel hg hQ
  rw [rounds_succ]
  obtain ⟨D,ow,μ,hw,hs⟩:=hrel
  have hslot:=hs.slot t
  rw [hit] at hslot
  have hv:a.eval (.tmp t)=.pointer (some ⟨μ k,0,none⟩):=by
   show a.tmps.getD t Go.undef=_
   generalize a.tmps.getD t Go.undef=v at hslot
   cases hslot;rfl
  obtain ⟨u,w1,hrun,hcase⟩:=avx hw (hrem x)
  obtain ⟨h0,y,h1,h2⟩:=hm
  rw [<-hP]
  rcases hcase with ⟨_,rfl,hu⟩ | ⟨i,e,hi,_⟩
  ·have hst:(l.H.st x).set k (.mit K E none [])=l.H.st x:=by
    apply List.ext_getElem?
    intro j
    rw [List.getElem?_set]
    split
    ·rename_i hj;subst hj;split
     ·rw [hrem x,h0]
     ·rename_i hlt;exact absurd (List.getElem?_eq_some_iff.1 (hrem x)).1 hlt
    ·rfl
   have hf:=hfin x
   rw [hst,h1] at hf
   have hrel1:Rel Γ ((l.H.env x).set d (ajs C.P K E none)) (l.H.st x) (a.put (some d) u) w1:=
    ⟨D,ow,μ,hw,hs.put (some d) _ _ (fun z hz=>by cases hz;exact ⟨by rw [hn];exact (by unfold Nat.blt at hd;exact Nat.le_of_ble_eq_true hd),fun t u w' q he=>absurd he (hg t u w' q)⟩) (by rw [<-hP];exact hu) (fun t want q he=>by simp [ajs] at he)⟩
   rw [hP]
   have:=go1 0 S (.inr y) _ _ hf Γ hP hn hnp' Q a w1 u w1 (fun x' h=>by cases h) (fun z h=>by cases h;exact h2) (by rw [hv];exact hrun) hrel1 (hg.set d (by simp [ajs])) hQ
   rw [hP] at this
   exact this
  ·rw [h0] at hi;simp at hi
 | succ n ih=>
  intro x S hm Γ hP hn hnp' Q a w hrel hg hQ
  rw [rounds_succ]
  obtain ⟨D,ow,μ,hw,hs⟩:=hrel
  have hslot:=hs.slot t
  rw [hit] at hslot
  have hv:a.eval (.tmp t)=.pointer (some ⟨μ k,0,none⟩):=by
   show a.tmps.getD t Go.undef=_
   generalize a.tmps.getD t Go.undef=v at hslot
   cases hslot;rfl
  obtain ⟨u,w1,hrun,hcase⟩:=avx hw (hrem x)
  obtain ⟨h0,h1⟩:=hm
  rcases hcase with ⟨he,_⟩ | ⟨i,e,hi,hw1,hmv,hu⟩
  ·rw [he] at h0;simp at h0
  ·have hrel1:Rel Γ ((l.H.env x).set d (ajs C.P K E (some e))) ((l.H.st x).set k (.mit K E (some e) ((l.rem x).eraseIdx i))) (a.put (some d) u) w1:=
    ⟨D,ow,μ,hw1,(hs.mono hmv).put (some d) _ _ (fun z hz=>by cases hz;exact ⟨by rw [hn];exact (by unfold Nat.blt at hd;exact Nat.le_of_ble_eq_true hd),fun t u w' q he=>absurd he (hg t u w' q)⟩) (by rw [<-hP];exact hu) (fun t want q he=>by simp [ajs] at he)⟩
   have hg1:NoGd ((l.H.env x).set d (ajs C.P K E (some e))):=hg.set d (by simp [ajs])
   have hf:=hgo e ((l.rem x).eraseIdx i) x
   rcases h1 i e hi with ⟨x',hx',hm'⟩ | ⟨y,hy,hy2⟩
   ·rw [hx'] at hf
    have:=go1 (n+1) S (.inl x') _ _ hf Γ hP hn hnp' Q a w u w1 (fun x2 h a2 w2 hr2=>by cases h;exact ih x' S hm' Γ hP hn hnp' Q a2 w2 hr2 (l.H.noGd x') hQ) (fun z h=>by cases h) (by rw [hv];exact hrun) hrel1 hg1 hQ
    rw [hP] at this
    exact this
   ·rw [hy] at hf
    have:=go1 (n+1) S (.inr y) _ _ hf Γ hP hn hnp' Q a w u w1 (fun x2 h=>by cases h) (fun z h=>by cases h;exact hy2) (by rw [hv];exact hrun) hrel1 hg1 hQ
    rw [hP] at this
    exact this
theorem okM {C:Cfg} (hC:aai C) {body:Code} (fuel d t k:Nat) (K E:TypeId) (l:LoopM) (hL:∀ b,b∈aau body->LoopOk C b) (hnp:(Nat.ble C.np l.H.bs.length&&npX C.np l.X&&Nat.blt d C.n)=true:=by kernel_rfl) (hh:aeo body=some (d,.tmp t):=by kernel_rfl)
 (hit:∀ x,l.H.env x t=.mitr k:=by intro x;kernel_rfl) (hrem:∀ x,(l.H.st x)[k]?=some (.mit K E none (l.rem x)):=by intro x;kernel_rfl)
 (hgo:∀ e es x,exec C (ady body) (anw C.P l.H l.X) ((l.H.env x).set d (ajs C.P K E (some e))) ((l.H.st x).set k (.mit K E (some e) es))=l.go e es x:=by intro e es x;kernel_rfl)
 (hfin:∀ x,exec C (ady body) (anw C.P l.H l.X) ((l.H.env x).set d (ajs C.P K E none)) ((l.H.st x).set k (.mit K E none []))=l.fin x:=by intro x;kernel_rfl)
 (hlam:∀ (R:Type) (e:Env) (st:List BX) (K:LEx->Env->List BX->Option R),C.lam R (ai1 body) e st K=(l.H.dec C.P e st).bind fun x=>a0a fuel l.rem l.go l.fin x fun y=>kX l.X y K:=by intro R e st K;kernel_rfl):LoopOk C body:=by
 simp only [Bool.and_eq_true] at hnp
 intro R e st K' r h
 rw [hlam] at h
 simp only [Option.bind_eq_some_iff] at h
 obtain ⟨x,h1,h2⟩:=h
 have hm:=axd h2
 refine ⟨(l.rem x).length+1,fun Γ hP hn hnp' Q a w hr hg hQ=>?_⟩
 exact atr hC hh hnp.2 l hL hnp.1.1 hnp.1.2 hit hrem hgo hfin _ x _ hm Γ hP hn hnp' Q a w (Frame.dec_sound hP (by rw [hnp'];exact Nat.le_of_ble_eq_true hnp.1.1) h1 hr) (l.H.noGd x) fun y hy=>by
  simp only [a6y] at hy
  exact hQ _ _ _ hy (aq4 _ _)
noncomputable def lamM (P:Program) (fuel:Nat) (f:(R:Type)->Nat->Env->List BX->(LEx->Env->List BX->Option R)->Option R):List LoopM->(R:Type)->Nat->Env->List BX->(LEx->Env->List BX->Option R)->Option R
 | [],R,key,e,st,K=>f R key e st K
 | l::r,R,key,e,st,K=>bif Nat.beq l.key key then (l.H.dec P e st).bind fun x=>a0a fuel l.rem l.go l.fin x fun y=>kX l.X y K else lamM P fuel f r R key e st K
noncomputable def mcfg (C:Cfg) (fuel:Nat) (ls:List LoopM):Cfg:={ C with lam:=lamM C.P fuel C.lam ls }
theorem atu {C:Cfg}{fuel:Nat}{ls:List LoopM} (h:aai C):aai (mcfg C fuel ls):=h
def fcfg (C:Cfg) (f:FuncId):Cfg:={ C with frz:=fun g=>Nat.beq f g }
theorem ata {C:Cfg}{f:FuncId} (h:aai C):aai (fcfg C f):=h
end Go.Ab
