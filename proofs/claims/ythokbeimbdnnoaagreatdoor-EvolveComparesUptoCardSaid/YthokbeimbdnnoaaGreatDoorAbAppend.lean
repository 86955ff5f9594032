/- append. -/
import Derived.Test.YthokbeimbdnnoaaGreatDoorAbIter
set_option linter.unusedVariables false
set_option linter.unusedSimpArgs false
set_option linter.unnecessarySimpa false
namespace Go.Ab
open Go
section
variable {Γ:Ctx}{D:Dom}{ow:Own}{μ:Nat->Nat}{st:List BX}{w:World}
theorem WRel.setAcc (J:WRel Γ D ow μ st w) {k gb:Nat}{st':List BX} (ae:(k=st.length/\st'=st++[.acc 0])\/(∃ g,st[k]?=some (.acc g)/\st'=st.set k (.acc (g+1)))) {w':World}{D':Dom}
 (aj:(w.heap.size<=gb/\gb<w'.heap.size)\/ow gb=some k) (I:∀ b,b<w.heap.size->b≠gb->w'.heap[b]?=w.heap[b]?) (au:w.heap.size<=w'.heap.size)
 (aq:w'.os=w.os) (av:w'.tape=w.tape) (ar:w'.output=w.output) (hD:∀ b o,D b o->D' b o) (hN:∀ b o,D' b o->D b o\/b=gb) (ao:Keeps D w w'):
 WRel Γ D' (upd ow gb (some k)) μ st' w'/\Moves D w ow μ st D' w' (upd ow gb (some k)) μ st':=by
 have O:∀ y,st[k]?=some y->∃ g,y=.acc g:=by
  intro y hy;rcases ae with ⟨M,_⟩ | ⟨g,M,_⟩
  ·have:=(List.getElem?_eq_some_iff.1 hy).1;omega
  ·rw [M] at hy;cases hy;exact ⟨g,rfl⟩
 have aa:∀ {j:Nat}{y:BX},st[j]?=some y->j≠k->st'[j]?=some y:=by
  intro j y e z;rcases ae with ⟨M,h2⟩ | ⟨g,M,h2⟩
  ·rw [h2,Au (List.getElem?_eq_some_iff.1 e).1];exact e
  ·rw [h2,Ar (by omega)];exact e
 have ab:∀ {j:Nat}{y:BX},st'[j]?=some y->j≠k->st[j]?=some y:=by
  intro j y e z;rcases ae with ⟨M,h2⟩ | ⟨g,M,h2⟩
  ·rw [h2] at e;have ap:=(List.getElem?_eq_some_iff.1 e).1;simp at ap;rwa [Au (by omega)] at e
  ·rw [h2,Ar (by omega)] at e;exact e
 have ad:∃ g1,st'[k]?=some (.acc g1)/\∀ g,st[k]?=some (.acc g)->g<g1:=by
  rcases ae with ⟨M,h2⟩ | ⟨g,M,h2⟩
  ·refine ⟨0,by rw [h2,M,Av (Nat.le_refl _)];simp,λg hg=>?_⟩;have:=(List.getElem?_eq_some_iff.1 hg).1;omega
  ·refine ⟨g+1,by rw [h2,List.getElem?_set_self (List.getElem?_eq_some_iff.1 M).1],λg' hg=>?_⟩;rw [M] at hg;cases hg;omega
 have am:st.length<=st'.length/\k<st'.length:=by
  rcases ae with ⟨M,h2⟩ | ⟨g,M,h2⟩
  ·rw [h2];simp;omega
  ·rw [h2];simp;exact (List.getElem?_eq_some_iff.1 M).1
 have Z:∀ {j b:Nat},ow b=some j->j≠k->b≠gb:=by
  intro j b ob z e;subst e;rcases aj with h | h
  ·have:=(J.owlt b j ob).1;omega
  ·rw [ob] at h;cases h;exact z rfl
 have ai:Γ.B<=gb\/ow gb=some k:=aj.imp (λh=>by have:=J.hs;omega) id
 have ag:gb<w'.heap.size:=by
  rcases aj with h | h
  ·exact h.2
  ·have:=(J.owlt gb k h).1;omega
 have m:Moves D w ow μ st D' w' (upd ow gb (some k)) μ st':=by
  refine ⟨hD,ao,λj T x e=>⟨rfl,?_⟩,λj K E es e=>⟨rfl,?_⟩,λj b e hs=>⟨rfl,b,?_,rfl⟩,λj E g xs e=>?_,λj g e=>?_⟩
  ·have z:j≠k:=λz=>by subst z;obtain ⟨g,hg⟩:=O _ e;cases hg
   exact ⟨_,aa e z⟩
  ·have z:j≠k:=λz=>by subst z;obtain ⟨g,hg⟩:=O _ e;cases hg
   exact ⟨_,aa e z⟩
  ·have z:j≠k:=λz=>by subst z;obtain ⟨g,hg⟩:=O _ e;subst hg;exact hs rfl
   exact aa e z
  ·have z:j≠k:=λz=>by subst z;obtain ⟨g,hg⟩:=O _ e;cases hg
   refine ⟨g,xs,aa e z,Nat.le_refl _,λ_=>⟨rfl,λcur hc ak=>?_⟩⟩;have H:=Z ak z;exact ⟨rfl,by rw [aao _ _ H];exact ak,cur,(I _ (J.owlt _ j ak).1 H).trans hc,rfl⟩
  ·by_cases z:j=k
   ·subst z;obtain ⟨g1,M,h2⟩:=ad;have:=h2 g e;exact ⟨g1,M,by omega,λh=>by omega⟩
   ·refine ⟨g,aa e z,Nat.le_refl _,λ_ b ob=>?_⟩;have H:=Z ob z;refine ⟨I b (J.owlt b j ob).1 H,by rw [aao _ _ H];exact ob,λo d=>(hN b o d).resolve_right H⟩
 have ah:∀ j,j<Γ.np->∃ b,st'[j]?=some b/\b.kind=Γ.K0 j:=by
  intro j z;obtain ⟨x,hx,p1⟩:=J.par j z;by_cases al:j=k
  ·subst al;obtain ⟨g,hg⟩:=O _ hx;subst hg;obtain ⟨g1,M,_⟩:=ad;exact ⟨_,M,p1⟩
  ·exact ⟨x,aa hx al,p1⟩
 refine ⟨⟨λj T x e=>?_,λj K E es e=>?_,λj x e=>?_,λb j ob=>?_,λb o d=>?_,aq.trans J.os,av.trans J.tape,ar.trans J.output,Nat.le_trans J.hs au,λb H hn=>?_,λb o d=>hD b o (J.dom0 b o d),λb o d=>?_,λb j ob H=>?_,Nat.le_trans J.np am.1,J.mu0,ah,λb j y ob e hy o d=>?_,J.keep0.trans m.keeps J.dom0,J.arr0_moves m ah⟩,m⟩
 ·have z:j≠k:=λz=>by subst z;obtain ⟨g1,M,_⟩:=ad;rw [M] at e;cases e
  obtain ⟨c,T1,q1,q2,q3,q4,q5⟩:=J.box j T x (ab e z);have H:=Z q3 z;exact BoxRep.mono ⟨c,T1,q1,q2,q3,q4,q5⟩ m rfl (I _ (J.owlt _ _ q3).1 H) (by rw [aao _ _ H];exact q3) (λo d=>q4 o ((hN _ o d).resolve_right H))
 ·have z:j≠k:=λz=>by subst z;obtain ⟨g1,M,_⟩:=ad;rw [M] at e;cases e
  obtain ⟨ents,clock,kc,vc,q1,q2,q3⟩:=J.map j K E es (ab e z);have H:=Z q2 z;exact OMapRep.mono ⟨ents,clock,kc,vc,q1,q2,q3⟩ m.dom m.keeps rfl (I _ (J.owlt _ _ q2).1 H) (by rw [aao _ _ H];exact q2) (λo d=>q3.1 o ((hN _ o d).resolve_right H))
 ·by_cases z:j=k
  ·subst z;obtain ⟨g1,M,_⟩:=ad;rw [M] at e;cases e;trivial
  ·refine (J.obj j x (ab e z)).mono m.dom m.keeps (λ_=>rfl) (λc oc=>?_);have H:=Z oc z;exact ⟨I _ (J.owlt _ _ oc).1 H,by rw [aao _ _ H];exact oc,λo d=>(hN _ o d).resolve_right H⟩
 ·by_cases H:b=gb
  ·rw [H,aah] at ob;cases ob;rw [H];exact ⟨ag,am.2⟩
  ·rw [aao _ _ H] at ob;have:=J.owlt b j ob;exact ⟨by omega,by omega⟩
 ·rcases hN b o d with d | d
  ·have:=J.dlt b o d;omega
  ·rw [d];exact ag
 ·have af:b≠gb:=λan=>by
   subst an;rcases ai with h | h
   ·omega
   ·have:=J.owN b k h H;rw [hn] at this;cases this
  exact (I b (by have:=J.hs;omega) af).trans (J.old b H hn)
 ·rcases hN b o d with d | d
  ·exact J.domN b o d
  ·subst d;rcases ai with h | h
   ·exact Or.inr (Or.inl h)
   ·by_cases H:b<Γ.B
    ·exact Or.inr (Or.inr (by rw [J.owN b k h H];simp))
    ·exact Or.inr (Or.inl (by omega))
 ·by_cases af:b=gb
  ·subst af;rw [aah] at ob;cases ob;rcases ai with h | h
   ·omega
   ·exact J.owN b k h H
  ·rw [aao _ _ af] at ob;exact J.owN b j ob H
 ·by_cases z:j=k
  ·subst z;obtain ⟨g1,M,_⟩:=ad;rw [M] at e;cases e;exact hy _ rfl
  ·by_cases H:b=gb
   ·rw [H,aah] at ob;cases ob;exact z rfl
   ·rw [aao _ _ H] at ob;exact J.lone b j y ob (ab e z) hy o ((hN b o d).resolve_right H)
theorem WRel.growArr (I:WRel Γ D ow μ st w) {k g gb:Nat}{E0:TypeId}{xs xs':List PV} (hk:st[k]?=some (.arr E0 g xs)) {w':World}{ae:Array Value}
 (af:(w.heap.size<=gb/\gb<w'.heap.size)\/ow gb=some k) (H:∀ b,b<w.heap.size->b≠gb->w'.heap[b]?=w.heap[b]?) (am:w.heap.size<=w'.heap.size)
 (aq:w'.os=w.os) (au:w'.tape=w.tape) (ar:w'.output=w.output) (hh:w'.heap[gb]?=some (.cells ae E0 (0,0))) (ao:xs'.length*Γ.P.cellsOf E0<=ae.size)
 (hr:∀ (i:Nat) (x:PV),xs'[i]?=some x->Rep Γ.P D w E0 x ((ae.toList.drop (i*Γ.P.cellsOf E0)).take (Γ.P.cellsOf E0))):
 (st.set k (.arr E0 (g+1) xs'))[k]?=some (.arr E0 (g+1) xs')/\WRel Γ D (upd ow gb (some k)) (upd μ k gb) (st.set k (.arr E0 (g+1) xs')) w'/\Moves D w ow μ st D w' (upd ow gb (some k)) (upd μ k gb) (st.set k (.arr E0 (g+1) xs')):=by
 have al:=(List.getElem?_eq_some_iff.1 hk).1
 have ab:∀ o,¬D gb o:=by
  intro o d;rcases af with h | h
  ·have:=I.dlt _ _ d;omega
  ·exact I.lone gb k _ h hk (by simp) o d
 have ap:Keeps D w w':=Keeps.of_heap λb o d=>H b (I.dlt b o d) (λe=>by subst e;exact ab o d)
 have Z:∀ {j:Nat}{y:BX},st[j]?=some y->j≠k->(st.set k (.arr E0 (g+1) xs'))[j]?=some y:=λe z=>by rw [Ar (by omega)];exact e
 have ad:∀ {j:Nat}{y:BX},(st.set k (.arr E0 (g+1) xs'))[j]?=some y->j≠k->st[j]?=some y:=λe z=>by rwa [Ar (by omega)] at e
 have aa:(st.set k (.arr E0 (g+1) xs'))[k]?=some (.arr E0 (g+1) xs'):=by rw [List.getElem?_set_self al]
 have M:∀ {j b:Nat},ow b=some j->j≠k->b≠gb:=by
  intro j b O z e;subst e;rcases af with h | h
  ·have:=(I.owlt b j O).1;omega
  ·rw [O] at h;cases h;exact z rfl
 have ak:gb<w'.heap.size:=by
  rcases af with h | h
  ·exact h.2
  ·have:=(I.owlt gb k h).1;omega
 have mu:∀ {j:Nat},j≠k->upd μ k gb j=μ j:=λz=>aao _ _ z
 have m:Moves D w ow μ st D w' (upd ow gb (some k)) (upd μ k gb) (st.set k (.arr E0 (g+1) xs')):=by
  refine ⟨λ_ _ d=>d,ap,λj T x e=>?_,λj K E es e=>?_,λj b e hs=>?_,λj E g' ys e=>?_,λj g' e=>?_⟩
  ·have z:j≠k:=λz=>by subst z;rw [hk] at e;cases e
   exact ⟨mu z,_,Z e z⟩
  ·have z:j≠k:=λz=>by subst z;rw [hk] at e;cases e
   exact ⟨mu z,_,Z e z⟩
  ·have z:j≠k:=λz=>by subst z;rw [hk] at e;cases e;exact hs rfl
   exact ⟨mu z,b,Z e z,rfl⟩
  ·by_cases z:j=k
   ·subst z;rw [hk] at e;cases e;exact ⟨_,_,aa,by omega,λh=>by omega⟩
   ·refine ⟨g',ys,Z e z,Nat.le_refl _,λ_=>⟨rfl,λcur hc aj=>?_⟩⟩;have J:=M aj z;exact ⟨mu z,by rw [aao _ _ J];exact aj,cur,(H _ (I.owlt _ j aj).1 J).trans hc,rfl⟩
  ·have z:j≠k:=λz=>by subst z;rw [hk] at e;cases e
   refine ⟨g',Z e z,Nat.le_refl _,λ_ b O=>?_⟩;have J:=M O z;exact ⟨H b (I.owlt b j O).1 J,by rw [aao _ _ J];exact O,λo d=>d⟩
 have ai:∀ j,j<Γ.np->∃ b,(st.set k (.arr E0 (g+1) xs'))[j]?=some b/\b.kind=Γ.K0 j:=by
  intro j z;obtain ⟨x,hx,p1⟩:=I.par j z;by_cases ag:j=k
  ·subst ag;rw [hk] at hx;cases hx;exact ⟨_,aa,p1⟩
  ·exact ⟨x,Z hx ag,p1⟩
 refine ⟨aa,⟨λj T x e=>?_,λj K E es e=>?_,λj x e=>?_,λb j O=>?_,λb o d=>A5 (I.dlt b o d) am,aq.trans I.os,au.trans I.tape,ar.trans I.output,Nat.le_trans I.hs am,λb J hn=>?_,I.dom0,I.domN,λb j O J=>?_,by simpa using I.np,λj z hK=>?_,ai,λb j y O e hy o d=>?_,I.keep0.trans m.keeps I.dom0,I.arr0_moves m ai⟩,m⟩
 ·have z:j≠k:=λz=>by subst z;rw [aa] at e;cases e
  obtain ⟨c,T1,q1,q2,q3,q4,q5⟩:=I.box j T x (ad e z);have J:=M q3 z;exact BoxRep.mono ⟨c,T1,q1,q2,q3,q4,q5⟩ m (mu z) (H _ (I.owlt _ _ q3).1 J) (by rw [aao _ _ J];exact q3) q4
 ·have z:j≠k:=λz=>by subst z;rw [aa] at e;cases e
  obtain ⟨ents,clock,kc,vc,q1,q2,q3⟩:=I.map j K E es (ad e z);have J:=M q2 z;exact OMapRep.mono ⟨ents,clock,kc,vc,q1,q2,q3⟩ m.dom m.keeps (mu z) (H _ (I.owlt _ _ q2).1 J) (by rw [aao _ _ J];exact q2) q3.1
 ·by_cases z:j=k
  ·subst z;rw [aa] at e;cases e;exact Or.inr ⟨ae,by rw [aah];exact hh,by rw [aah,aah],by rw [aah];exact ab,ao,λi x hx=>(hr i x hx).mono m.dom m.keeps⟩
  ·refine (I.obj j x (ad e z)).mono m.dom m.keeps (λ_=>mu z) (λc oc=>?_);have J:=M oc z;exact ⟨H _ (I.owlt _ _ oc).1 J,by rw [aao _ _ J];exact oc,λo d=>d⟩
 ·by_cases J:b=gb
  ·rw [J,aah] at O;cases O;rw [J];exact ⟨ak,by simpa using al⟩
  ·rw [aao _ _ J] at O;have:=I.owlt b j O;exact ⟨by omega,by simpa using this.2⟩
 ·have ah:b≠gb:=λan=>by
   subst an;rcases af with h | h
   ·have:=I.hs;omega
   ·have:=I.owN b k h J;rw [hn] at this;cases this
  exact (H b (by have:=I.hs;omega) ah).trans (I.old b J hn)
 ·by_cases ah:b=gb
  ·subst ah;rw [aah] at O;cases O;rcases af with h | h
   ·have:=I.hs;omega
   ·exact I.owN b k h J
  ·rw [aao _ _ ah] at O;exact I.owN b j O J
 ·by_cases ag:j=k
  ·subst ag;obtain ⟨x,hx,p1⟩:=I.par j z;rw [hk] at hx;cases hx;exact absurd p1.symm (hK E0)
  ·rw [mu ag];exact I.mu0 j z hK
 ·by_cases z:j=k
  ·subst z;by_cases J:b=gb
   ·subst J;exact ab o d
   ·rw [aao _ _ J] at O;exact I.lone b j _ O hk (by simp) o d
  ·by_cases J:b=gb
   ·rw [J,aah] at O;cases O;exact z rfl
   ·rw [aao _ _ J] at O;exact I.lone b j y O (ad e z) hy o d
theorem WRel.arrBump (H:WRel Γ D ow μ st w) {k g:Nat}{O:TypeId}{xs:List PV} (Z:st[k]?=some (.arr O g xs)):
 (st.set k (.arr O (g+1) xs))[k]?=some (.arr O (g+1) xs)/\WRel Γ D ow μ (st.set k (.arr O (g+1) xs)) w/\Moves D w ow μ st D w ow μ (st.set k (.arr O (g+1) xs)):=by
 have ad:=(List.getElem?_eq_some_iff.1 Z).1
 have I:∀ {j:Nat}{y:BX},st[j]?=some y->j≠k->(st.set k (.arr O (g+1) xs))[j]?=some y:=λe z=>by rw [Ar (by omega)];exact e
 have M:∀ {j:Nat}{y:BX},(st.set k (.arr O (g+1) xs))[j]?=some y->j≠k->st[j]?=some y:=λe z=>by rwa [Ar (by omega)] at e
 have J:(st.set k (.arr O (g+1) xs))[k]?=some (.arr O (g+1) xs):=by rw [List.getElem?_set_self ad]
 have m:Moves D w ow μ st D w ow μ (st.set k (.arr O (g+1) xs)):=by
  refine ⟨λ_ _ d=>d,Keeps.refl _ _,λj T x e=>?_,λj K E es e=>?_,λj b e hs=>?_,λj E g' ys e=>?_,λj g' e=>?_⟩
  ·have z:j≠k:=λz=>by subst z;rw [Z] at e;cases e
   exact ⟨rfl,_,I e z⟩
  ·have z:j≠k:=λz=>by subst z;rw [Z] at e;cases e
   exact ⟨rfl,_,I e z⟩
  ·have z:j≠k:=λz=>by subst z;rw [Z] at e;cases e;exact hs rfl
   exact ⟨rfl,b,I e z,rfl⟩
  ·by_cases z:j=k
   ·subst z;rw [Z] at e;cases e;exact ⟨_,_,J,by omega,λh=>by omega⟩
   ·exact ⟨g',ys,I e z,Nat.le_refl _,λ_=>⟨rfl,ArrKeep.refl _ _ _ _ _⟩⟩
  ·have z:j≠k:=λz=>by subst z;rw [Z] at e;cases e
   exact ⟨g',I e z,Nat.le_refl _,λ_ b ob=>⟨rfl,ob,λ_ d=>d⟩⟩
 have aa:∀ j,j<Γ.np->∃ b,(st.set k (.arr O (g+1) xs))[j]?=some b/\b.kind=Γ.K0 j:=by
  intro j z;obtain ⟨x,hx,p1⟩:=H.par j z;by_cases ab:j=k
  ·subst ab;rw [Z] at hx;cases hx;exact ⟨_,J,p1⟩
  ·exact ⟨x,I hx ab,p1⟩
 refine ⟨J,⟨λj T s e=>?_,λj K E es e=>?_,λj b e=>?_,λb j ob=>by simpa using H.owlt b j ob,H.dlt,H.os,H.tape,H.output,H.hs,H.old,H.dom0,H.domN,H.owN,by simpa using H.np,H.mu0,aa,λb j y ob e hy o d=>?_,H.keep0.trans m.keeps H.dom0,H.arr0_moves m aa⟩,m⟩
 ·have z:j≠k:=λz=>by subst z;rw [J] at e;cases e
  obtain ⟨c,T1,q1,q2,q3,q4,q5⟩:=H.box j T s (M e z);exact ⟨c,T1,q1,q2,q3,q4,q5.mono m⟩
 ·have z:j≠k:=λz=>by subst z;rw [J] at e;cases e
  exact H.map j K E es (M e z)
 ·by_cases z:j=k
  ·subst z;rw [J] at e;cases e;have h0:aty Γ.P D w ow μ j O xs:=H.obj j _ Z;exact h0
  ·exact (H.obj j b (M e z)).mono m.dom m.keeps (λ_=>rfl) (λ_ o=>⟨rfl,o,λ_ d=>d⟩)
 ·by_cases z:j=k
  ·subst z;exact H.lone b j _ ob Z (by simp) o d
  ·exact H.lone b j y ob (M e z) hy o d
theorem ag9 {E:TypeId}{xs ys:List PV}{o H:List Value} (O:o.length=xs.length*Γ.P.cellsOf E) (Z:H.length=ys.length*Γ.P.cellsOf E)
 (J:∀ (i:Nat) (x:PV),xs[i]?=some x->Rep Γ.P D w E x ((o.drop (i*Γ.P.cellsOf E)).take (Γ.P.cellsOf E)))
 (M:∀ (i:Nat) (x:PV),ys[i]?=some x->Rep Γ.P D w E x ((H.drop (i*Γ.P.cellsOf E)).take (Γ.P.cellsOf E))):
 ∀ (i:Nat) (x:PV),(xs++ys)[i]?=some x->Rep Γ.P D w E x (((o++H).drop (i*Γ.P.cellsOf E)).take (Γ.P.cellsOf E)):=by
 intro i x z
 by_cases h:i<xs.length
 ·rw [Au h] at z;have:=J i x z;have I:(i+1)*Γ.P.cellsOf E<=xs.length*Γ.P.cellsOf E:=Ay _ (by omega);rw [Nat.add_mul] at I;rw [List.drop_append_of_le_length (by omega),List.take_append_of_le_length (by rw [Be];omega)];exact this
 ·rw [Av (by omega)] at z;have:=M _ x z;have I:xs.length*Γ.P.cellsOf E<=i*Γ.P.cellsOf E:=Ay _ (by omega);have e:i*Γ.P.cellsOf E=o.length+(i-xs.length)*Γ.P.cellsOf E:=by rw [Nat.sub_mul];omega
  rw [e,List.drop_append,Bb (by omega),A9,Nat.add_sub_cancel_left];exact this
theorem aja {E:TypeId}{ys:List PV}{o:List Value} (M:o.length=ys.length*Γ.P.cellsOf E) (h:0<Γ.P.cellsOf E)
 (J:∀ (i:Nat) (x:PV),ys[i]?=some x->Rep Γ.P D w E x ((o.drop (i*Γ.P.cellsOf E)).take (Γ.P.cellsOf E))):∀ c,c∈o->c.oneCell'=true:=by
 intro c H
 obtain ⟨j,I,rfl⟩:=List.mem_iff_getElem.1 H
 have z:j / Γ.P.cellsOf E<ys.length:=by rw [Nat.div_lt_iff_lt_mul h];omega
 refine (J _ _ (Aq z)).oneCell _ (List.mem_iff_getElem?.2 ⟨j%Γ.P.cellsOf E,?_⟩)
 rw [List.getElem?_take_of_lt (Nat.mod_lt _ h),List.getElem?_drop]
 have:=Nat.div_add_mod j (Γ.P.cellsOf E)
 rw [Nat.mul_comm] at this
 rw [this,Aq I]
theorem aod (hw:WRel Γ D ow μ st w) {k gb:Nat}{st':List BX} (ah:(k=st.length/\st'=st++[.acc 0])\/(∃ g,st[k]?=some (.acc g)/\st'=st.set k (.acc (g+1)))) {w':World}
 (ab:(w.heap.size<=gb/\gb<w'.heap.size)\/ow gb=some k) (H:∀ b,b<w.heap.size->b≠gb->w'.heap[b]?=w.heap[b]?) (ai:w.heap.size<=w'.heap.size)
 (af:w'.os=w.os) (aj:w'.tape=w.tape) (ag:w'.output=w.output) (ad:Keeps D w w')
 {E:TypeId}{zs:List PV}{L:List Value}{cur:Array Value}{cap:Nat} (hL:L.length=zs.length*Γ.P.cellsOf E) (z:w'.heap[gb]?=some (.cells cur E (0,0))) (M:cur.toList.take L.length=L) (I:zs.length<=cap) (O:cap<=maxLen) (Z:cur.size=cap*Γ.P.cellsOf E)
 (J:∀ o,zs.length*Γ.P.cellsOf E<=o->¬D gb o)
 (hr:∀ (i:Nat) (x:PV),zs[i]?=some x->Rep Γ.P D w E x ((L.drop (i*Γ.P.cellsOf E)).take (Γ.P.cellsOf E))) (g1:Nat) (aa:st'[k]?=some (.acc g1)):
 OpRes Γ D ow μ st w (.ok (.value (.slice (some ⟨gb,0,none⟩) zs.length cap)) w') (.acc k g1 E zs) st':=by
 obtain ⟨u1,u2⟩:=hw.setAcc ah (D':=λb o=>D b o\/(b=gb/\o<L.length)) ab H ai af aj ag (λb o d=>Or.inl d) (λb o d=>d.imp id (λh=>h.1)) ad
 refine ⟨_,_,_,_,_,Or.inl rfl,u1,u2,.acc ?_ aa (Nat.le_refl _) (λ_=>Or.inr ⟨gb,cap,cur,rfl,z,I,O,Z,aah _ _ _,λo ho d=>?_⟩)⟩
 ·refine .mk I hL (λi x hx=>(hr i x hx).mono u2.dom u2.keeps) (λj v hj=>?_);have ae:=(List.getElem?_eq_some_iff.1 hj).1;refine ⟨Or.inr ⟨rfl,by omega⟩,?_⟩;have:cur.toList[j]?=some v:=by
   rw [<-M,List.getElem?_take_of_lt ae] at hj;exact hj
  simp only [Nat.zero_add,World.cell?,z];simpa using this
 ·rcases d with d | d
  ·exact J o ho d
  ·omega
theorem abl {P:Program} (w:World) (t Z e:TypeId) (i:TypeInfo) (J:P.underlying t=some (.slice e)) (H:P.info? e=some i) (a:Option Addr) (n c:Nat) (O:n<=c) (v:Value)
 (M:v=.slice none 0 0\/∃ b o,v=.slice (some b) 0 o) (h:a=none->n=0/\c=0):(Builtin.append_ #[t,t] Z #[.slice a n c,v]).run P w=.ok (.slice a n c) w:=by
 have z:∀ u,(Builtin.firstCells i.size 0 v).run P u=.ok #[] u:=by
  intro u;rcases M with rfl | ⟨b,o,rfl⟩
  ·simp [Builtin.firstCells]
  ·simp [Builtin.firstCells,loadCells,loadCellsFrom]
 have I:∀ u,(Builtin.lenOf v).run P u=.ok 0 u:=by intro u;rcases M with rfl | ⟨b,o,rfl⟩<;>simp [Builtin.lenOf]
 cases a with
 | none=>
  obtain ⟨rfl,rfl⟩:=h rfl
  simp [Builtin.append_,run_underlying J,sizeOf,typeInfo,H,I,z]
 | some b=>simp [Builtin.append_,run_underlying J,sizeOf,typeInfo,H,I,z,O,storeCells]
end
end Go.Ab
namespace Go.Ab
open Go
section
variable {Γ:Ctx}{D:Dom}{ow:Own}{μ:Nat->Nat}{st:List BX}{w:World}
theorem WRel.accNil (h:WRel Γ D ow μ st w):WRel Γ D ow μ (st++[.acc 0]) w/\Moves D w ow μ st D w ow μ (st++[.acc 0]):=by
 have aa:∀ {k:Nat}{y:BX},st[k]?=some y->k<st.length:=λe=>(List.getElem?_eq_some_iff.1 e).1;have H:∀ {k:Nat}{y:BX},st[k]?=some y->(st++[BX.acc 0])[k]?=some y:=λ{k y} e=>by rw [Au (aa e)];exact e
 have z:∀ {k:Nat}{y:BX},(st++[BX.acc 0])[k]?=some y->(∀ g,y≠.acc g)->st[k]?=some y:=by
  intro k y e M;by_cases O:k<st.length
  ·rwa [Au O] at e
  ·have Z:k=st.length:=by have:=(List.getElem?_eq_some_iff.1 e).1;simp at this;omega
   subst Z;rw [Av (Nat.le_refl _)] at e;simp at e;exact absurd e.symm (M 0)
 have m:Moves D w ow μ st D w ow μ (st++[.acc 0]):=
  ⟨λ_ _ d=>d,Keeps.refl _ _,λk _ _ e=>⟨rfl,_,H e⟩,λk _ _ _ e=>⟨rfl,_,H e⟩,λk _ e _=>⟨rfl,_,H e,rfl⟩,λk _ _ _ e=>⟨_,_,H e,Nat.le_refl _,λ_=>⟨rfl,ArrKeep.refl _ _ _ _ _⟩⟩,λk g0 e=>⟨_,H e,Nat.le_refl _,λ_ b J=>⟨rfl,J,λ_ d=>d⟩⟩⟩
 have I:∀ k,k<Γ.np->∃ b,(st++[BX.acc 0])[k]?=some b/\b.kind=Γ.K0 k:=λk O=>by obtain ⟨s,hs,h1⟩:=h.par k O;exact ⟨s,H hs,h1⟩
 refine ⟨⟨λk T s e=>?_,λk K E es e=>?_,λk b e=>?_,λb k J=>⟨(h.owlt b k J).1,by have:=(h.owlt b k J).2;simp;omega⟩,h.dlt,h.os,h.tape,h.output,h.hs,h.old,h.dom0,h.domN,h.owN,by have:=h.np;simp;omega,h.mu0,I,λb k y J e M o d=>?_,h.keep0.trans m.keeps h.dom0,h.arr0_moves m I⟩,m⟩
 ·obtain ⟨c,T1,q1,q2,q3,q4,q5⟩:=h.box k T s (z e (by simp));exact ⟨c,T1,q1,q2,q3,q4,q5.mono m⟩
 ·exact h.map k K E es (z e (by simp))
 ·cases b with
  | acc g=>trivial
  | _=>exact (h.obj k _ (z e (by simp))).mono m.dom m.keeps (λ_=>rfl) (λ_ o=>⟨rfl,o,λ_ d=>d⟩)
 ·exact h.lone b k y J (z e M) M o d
theorem WRel.accBump (z:WRel Γ D ow μ st w) {k g:Nat} (O:st[k]?=some (.acc g)):WRel Γ D ow μ (st.set k (.acc (g+1))) w/\Moves D w ow μ st D w ow μ (st.set k (.acc (g+1))):=by
 have ab:=(List.getElem?_eq_some_iff.1 O).1;have Z:∀ {j:Nat}{y:BX},st[j]?=some y->j≠k->(st.set k (BX.acc (g+1)))[j]?=some y:=λe H=>by rw [Ar (by omega)];exact e
 have J:(st.set k (BX.acc (g+1)))[k]?=some (.acc (g+1)):=by rw [List.getElem?_set_self ab]
 have I:∀ {j:Nat}{y:BX},(st.set k (BX.acc (g+1)))[j]?=some y->(∀ g,y≠.acc g)->st[j]?=some y:=by
  intro j y e hy;by_cases H:j=k
  ·subst H;rw [J] at e;cases e;exact absurd rfl (hy (g+1))
  ·rwa [Ar (by omega)] at e
 have m:Moves D w ow μ st D w ow μ (st.set k (.acc (g+1))):=by
  refine ⟨λ_ _ d=>d,Keeps.refl _ _,λj T x e=>⟨rfl,?_⟩,λj K E es e=>⟨rfl,?_⟩,λj b e hs=>⟨rfl,b,?_,rfl⟩,λj E g' xs e=>?_,λj g' e=>?_⟩
  ·by_cases H:j=k
   ·subst H;rw [O] at e;cases e
   ·exact ⟨_,Z e H⟩
  ·by_cases H:j=k
   ·subst H;rw [O] at e;cases e
   ·exact ⟨_,Z e H⟩
  ·by_cases H:j=k
   ·subst H;rw [O] at e;cases e;exact absurd rfl hs
   ·exact Z e H
  ·by_cases H:j=k
   ·subst H;rw [O] at e;cases e
   ·exact ⟨g',xs,Z e H,Nat.le_refl _,λ_=>⟨rfl,ArrKeep.refl _ _ _ _ _⟩⟩
  ·by_cases H:j=k
   ·subst H;rw [O] at e;cases e;exact ⟨_,J,by omega,λh=>by omega⟩
   ·exact ⟨g',Z e H,Nat.le_refl _,λ_ b ob=>⟨rfl,ob,λ_ d=>d⟩⟩
 have M:∀ j,j<Γ.np->∃ b,(st.set k (BX.acc (g+1)))[j]?=some b/\b.kind=Γ.K0 j:=by
  intro j H;obtain ⟨x,hx,p1⟩:=z.par j H;by_cases aa:j=k
  ·subst aa;rw [O] at hx;cases hx;exact ⟨_,J,p1⟩
  ·exact ⟨x,Z hx aa,p1⟩
 refine ⟨⟨λj T s e=>?_,λj K E es e=>?_,λj b e=>?_,λb j ob=>by simpa using z.owlt b j ob,z.dlt,z.os,z.tape,z.output,z.hs,z.old,z.dom0,z.domN,z.owN,by simpa using z.np,z.mu0,M,λb j y ob e hy o d=>z.lone b j y ob (I e hy) hy o d,z.keep0.trans m.keeps z.dom0,z.arr0_moves m M⟩,m⟩
 ·obtain ⟨c,T1,q1,q2,q3,q4,q5⟩:=z.box j T s (I e (by simp));exact ⟨c,T1,q1,q2,q3,q4,q5.mono m⟩
 ·exact z.map j K E es (I e (by simp))
 ·cases b with
  | acc g=>trivial
  | _=>exact (z.obj j _ (I e (by simp))).mono m.dom m.keeps (λ_=>rfl) (λ_ o=>⟨rfl,o,λ_ d=>d⟩)
theorem aji (O:WRel Γ D ow μ st w) {k:Nat}{st':List BX} (M:(k=st.length/\st'=st++[.acc 0])\/(∃ g,st[k]?=some (.acc g)/\st'=st.set k (.acc (g+1)))) (I:Nat) (J:st'[k]?=some (.acc I))
 {E:TypeId}{z:Value} (hz:z.cells.size=Γ.P.cellsOf E) {zs:List PV}{L:List Value}{n cap:Nat} (hn:n=zs.length) (Z:L.length=zs.length*Γ.P.cellsOf E) (h:zs.length<=cap) (H:cap<=maxLen)
 (hr:∀ (i:Nat) (x:PV),zs[i]?=some x->Rep Γ.P D w E x ((L.drop (i*Γ.P.cellsOf E)).take (Γ.P.cellsOf E))):
 OpRes Γ D ow μ st w (.ok (.value (.slice (some ⟨w.heap.size,0,none⟩) n cap)) (w.drew.alloc (.cells (L.toArray++Builtin.zeroCells z.cells (cap-n)) E))) (.acc k I E zs) st':=by
 subst hn
 refine aod O M (w':=w.drew.alloc (.cells (L.toArray++Builtin.zeroCells z.cells (cap-zs.length)) E)) (gb:=w.heap.size) (Or.inl ⟨Nat.le_refl _,by simp⟩) (λb hb _=>aa4 w.drew _ b hb) (by simp) rfl rfl rfl
  (Keeps.of_heap λb o d=>aa4 w.drew _ b (O.dlt b o d)) Z (aas w.drew _) ?_ h H ?_ (λo _ d=>by have:=O.dlt _ _ d;omega) hr I J
 ·simp
 ·simp only [Array.size_append,List.size_toArray,size_zeroCells,hz,Z,<-Nat.add_mul];congr 1;omega
theorem ang (hw:WRel Γ D ow μ st w) (T ty E:TypeId) {I:TypeInfo}{z:Value} (hT:Γ.P.underlying T=some (.slice E)) (hi:Γ.P.info? E=some I) (au:I.zero=some z) (ad:I.size=Γ.P.cellsOf E) (aB:z.cells.size=Γ.P.cellsOf E) (aG:0<Γ.P.cellsOf E)
 (aa:∀ n,n<=aae->n*I.bytes<=140737488355328) {k g:Nat}{xs ys:List PV} (hk:st[k]?=some (.arr E g xs)) {xv yv:Value} (hx:SRep Γ.P D w ow μ st (.arr k g E) xv)
 (aj:(ys=[]/\(yv=.slice none 0 0\/∃ b c',yv=.slice (some b) 0 c'))\/
  ∃ (b off cap:Nat) (L:List Value),yv=.slice (some ⟨b,off,none⟩) ys.length cap/\0<ys.length/\L.length=ys.length*Γ.P.cellsOf E/\(∀ (i:Nat) (x:PV),ys[i]?=some x->Rep Γ.P D w E x ((L.drop (i*Γ.P.cellsOf E)).take (Γ.P.cellsOf E)))/\
   (∀ j u,L[j]?=some u->w.cell? ((⟨b,off,none⟩:Addr).add j)=some u)) (hb:xs.length+ys.length<=aae):
 ∃ u w',(Builtin.append_ #[T,T] ty #[xv,yv]).run Γ.P w=.ok u w'/\OpRes Γ D ow μ st w (.ok (.value u) w') (.arr k (g+1) E) (st.set k (.arr E (g+1) (xs++ys))):=by
 have M:(xs++ys).length=xs.length+ys.length:=by simp
 have ar:xs.length+ys.length<=maxLen:=by unfold aae at hb;unfold maxLen;omega
 cases hx with
 | arrOld Z aw=>rw [hk] at Z;cases Z;omega
 | @arrNil _ _ _ a Z=>
  rw [hk] at Z;cases Z
  simp only [A9,Ao,Nat.zero_add] at*
  rcases aj with ⟨rfl,hv⟩ | ⟨b,off,cap,L,rfl,ap,hL,ae,H⟩
  ·obtain ⟨u0,u1,u2⟩:=hw.arrBump hk;refine ⟨.slice a 0 0,w,abl w T ty E I hT hi a 0 0 (by omega) yv hv (λ_=>⟨rfl,rfl⟩),?_⟩;exact ⟨_,_,_,_,_,Or.inl rfl,u1,u2,.arrNil u0⟩
  ·have aC:ys.length*I.bytes<=281474976710656:=by have:=aa _ hb;omega
   have fin:∀ o,ys.length<=o->o<=maxLen->OpRes Γ D ow μ st w (.ok (.value (.slice (some ⟨w.heap.size,0,none⟩) ys.length o)) (w.drew.alloc (.cells (L.toArray++Builtin.zeroCells z.cells (o - ys.length)) E))) (.arr k (g+1) E) (st.set k (.arr E (g+1) ys)):=by
    intro o ai av;have ab:(L.toArray++Builtin.zeroCells z.cells (o - ys.length)).size=o*Γ.P.cellsOf E:=by simp only [Array.size_append,List.size_toArray,size_zeroCells,aB,hL,<-Nat.add_mul];congr 1;omega
    have ah:∀ (i:Nat) (x:PV),ys[i]?=some x->Rep Γ.P D w E x (((L.toArray++Builtin.zeroCells z.cells (o - ys.length)).toList.drop (i*Γ.P.cellsOf E)).take (Γ.P.cellsOf E)):=by intro i x hx;have h2:(i+1)*Γ.P.cellsOf E<=ys.length*Γ.P.cellsOf E:=Ay _ (by have:=(List.getElem?_eq_some_iff.1 hx).1;omega);rw [Nat.add_mul] at h2;simp only [Array.toList_append,List.toList_toArray];rw [List.drop_append_of_le_length (by omega),List.take_append_of_le_length (by rw [Be];omega)];exact ae i x hx
    obtain ⟨u0,u1,u2⟩:=hw.growArr (gb:=w.heap.size) (xs':=ys) hk (w':=w.drew.alloc (.cells (L.toArray++Builtin.zeroCells z.cells (o - ys.length)) E)) (Or.inl ⟨Nat.le_refl _,by simp⟩) (λb hb _=>aa4 w.drew _ b hb) (by simp) rfl rfl rfl (aas w.drew _) (by rw [ab];exact Ay _ ai) ah;refine ⟨_,_,_,_,_,Or.inl rfl,u1,u2,?_⟩;have:=SRep.arr (P:=Γ.P) (D:=D) (w:=w.drew.alloc (.cells (L.toArray++Builtin.zeroCells z.cells (o - ys.length)) E)) (ow:=upd ow w.heap.size (some k)) (μ:=upd μ k w.heap.size) (cap:=o) u0 ai av (by rw [aah];exact aas w.drew _) (by rw [aah,aah]) ab.symm;rwa [aah] at this
   cases a with
   | none=>have hr:=run_append_nil (P:=Γ.P) w T ty E I z hT hi au ⟨b,off,none⟩ ys.length cap L (by rw [ad];exact hL) H ap (by unfold aae at hb;omega) aC;exact ⟨_,_,hr,fin _ (grownCap_ge _ _ _ _) (grownCap_le_maxLen _ _ _ _ ar)⟩
   | some a=>have hr:=run_append_grow (P:=Γ.P) w T ty E I z hT hi au a 0 0 [] (by simp) (λj u hj=>by simp at hj) ⟨b,off,none⟩ ys.length cap L (by rw [ad];exact hL) H (by omega) (by unfold aae at hb;omega) (growslice_fits (by omega) (aa _ (by omega)));simp only [Nat.zero_add] at hr;refine ⟨_,_,hr,?_⟩;rw [show (#[]:Array Value)++L.toArray=L.toArray by simp];exact fin _ (by have:=grownCap_ge;exact this _ _ _ _) (grownCap_le_maxLen _ _ _ _ ar)
 | @arr _ _ af _ aJ cur Z al ao J ay ab=>
  rw [hk] at Z;cases Z
  have az:xs.length*Γ.P.cellsOf E<=cur.size/\∀ (i:Nat) (x:PV),xs[i]?=some x->Rep Γ.P D w E x ((cur.toList.drop (i*Γ.P.cellsOf E)).take (Γ.P.cellsOf E)):=by
   rcases hw.obj k _ hk with h0 | ⟨aI,q1,q2,q3,q4,q5⟩
   ·subst h0;exact ⟨by simp,λi x hi=>by simp at hi⟩
   ·rw [J] at q1;cases q1;exact ⟨q4,q5⟩
  rcases aj with ⟨rfl,hv⟩ | ⟨b,off,cap,L,rfl,ap,hL,ae,H⟩
  ·obtain ⟨u0,u1,u2⟩:=hw.arrBump hk;refine ⟨_,w,abl w T ty E I hT hi _ _ _ al yv hv (λh=>by cases h),?_⟩;rw [List.append_nil];exact ⟨_,_,_,_,_,Or.inl rfl,u1,u2,.arr u0 al ao J ay ab⟩
  ·have ag:(cur.toList.take (xs.length*Γ.P.cellsOf E)).length=xs.length*Γ.P.cellsOf E:=by simp;omega
   have aH:∀ (i:Nat) (x:PV),xs[i]?=some x->Rep Γ.P D w E x (((cur.toList.take (xs.length*Γ.P.cellsOf E)).drop (i*Γ.P.cellsOf E)).take (Γ.P.cellsOf E)):=by intro i x hi;have h2:(i+1)*Γ.P.cellsOf E<=xs.length*Γ.P.cellsOf E:=Ay _ (by have:=(List.getElem?_eq_some_iff.1 hi).1;omega);rw [Nat.add_mul] at h2;rw [List.drop_take,List.take_take,Nat.min_eq_left (by omega)];exact az.2 i x hi
   have ak:=ag9 ag hL aH ae;have aF:∀ j u,(cur.toList.take (xs.length*Γ.P.cellsOf E))[j]?=some u->w.cell? ((⟨μ k,0,none⟩:Addr).add j)=some u:=by intro j u hj;have aw:=(List.getElem?_eq_some_iff.1 hj).1;rw [ag] at aw;rw [List.getElem?_take_of_lt aw] at hj;rw [ab6,Nat.zero_add];simp only [World.cell?,J];simpa using hj
   by_cases O:xs.length+ys.length<=af
   ·have an:xs.length*I.size+L.length<=cur.size:=by rw [ad,hL,<-ab,<-Nat.add_mul];exact Ay _ O
    have hr:=run_append_room (P:=Γ.P) w T ty E I hT hi (μ k) xs.length af cur J ⟨b,off,none⟩ ys.length cap L (by rw [ad];exact hL) H (aja hL aG ae) O an;refine ⟨_,_,hr,?_⟩;rw [ad] at an ⊢;have aA:(w.setRow (μ k) (cur.toList.take (xs.length*Γ.P.cellsOf E)++L++cur.toList.drop (xs.length*Γ.P.cellsOf E+L.length)).toArray).heap[μ k]?=some (.cells (cur.toList.take (xs.length*Γ.P.cellsOf E)++L++cur.toList.drop (xs.length*Γ.P.cellsOf E+L.length)).toArray E (0,0)):=setRow_heap w (μ k) cur _ E _ J;have aq:(cur.toList.take (xs.length*Γ.P.cellsOf E)++L++cur.toList.drop (xs.length*Γ.P.cellsOf E+L.length)).toArray.size=cur.size:=by simp;omega
    have ah:∀ (i:Nat) (x:PV),(xs++ys)[i]?=some x->Rep Γ.P D w E x (((cur.toList.take (xs.length*Γ.P.cellsOf E)++L++cur.toList.drop (xs.length*Γ.P.cellsOf E+L.length)).toArray.toList.drop (i*Γ.P.cellsOf E)).take (Γ.P.cellsOf E)):=by intro i x hx;have h2:(i+1)*Γ.P.cellsOf E<=(xs++ys).length*Γ.P.cellsOf E:=Ay _ (by have:=(List.getElem?_eq_some_iff.1 hx).1;omega);rw [Nat.add_mul,M,Nat.add_mul] at h2;simp only;rw [List.drop_append_of_le_length (by simp only [Ak,ag,hL];omega),List.take_append_of_le_length (by simp only [Be,Ak,ag,hL];omega)];exact ak i x hx
    obtain ⟨u0,u1,u2⟩:=hw.growArr (gb:=μ k) (xs':=xs++ys) hk (Or.inr ay) (λb' _ aE=>setRow_other w (μ k) b' _ aE) (by simp) rfl rfl rfl aA (by rw [aq,M,<-ab];exact Ay _ O) ah;refine ⟨_,_,_,_,_,Or.inl rfl,u1,u2,?_⟩;rw [<-M];have:=SRep.arr (P:=Γ.P) (D:=D) (ow:=upd ow (μ k) (some k)) (μ:=upd μ k (μ k)) (cap:=af) u0 (by rw [M];exact O) ao (by rw [aah];exact aA) (by rw [aah,aah]) (by rw [aq];exact ab);rwa [aah] at this
   ·have hr:=run_append_grow (P:=Γ.P) w T ty E I z hT hi au ⟨μ k,0,none⟩ xs.length af _ (by rw [ad];exact ag) aF ⟨b,off,none⟩ ys.length cap L (by rw [ad];exact hL) H (by omega) (by unfold aae at hb;omega) (growslice_fits (by omega) (aa _ hb));refine ⟨_,_,hr,?_⟩;rw [show (cur.toList.take (xs.length*Γ.P.cellsOf E)).toArray++L.toArray=(cur.toList.take (xs.length*Γ.P.cellsOf E)++L).toArray by simp];generalize ax:grownCap _ _ _ _=gc;have ai:(xs++ys).length<=gc:=by rw [M,<-ax];exact grownCap_ge _ _ _ _
    have av:gc<=maxLen:=by rw [<-ax];exact grownCap_le_maxLen _ _ _ _ ar
    rw [<-M];have aD:(cur.toList.take (xs.length*Γ.P.cellsOf E)++L).length=(xs++ys).length*Γ.P.cellsOf E:=by rw [Ak,ag,hL,M,Nat.add_mul]
    have am:((cur.toList.take (xs.length*Γ.P.cellsOf E)++L).toArray++Builtin.zeroCells z.cells (gc-(xs++ys).length)).size=gc*Γ.P.cellsOf E:=by simp only [Array.size_append,List.size_toArray,size_zeroCells,aB,aD,<-Nat.add_mul];congr 1;omega
    have ah:∀ (i:Nat) (x:PV),(xs++ys)[i]?=some x->Rep Γ.P D w E x ((((cur.toList.take (xs.length*Γ.P.cellsOf E)++L).toArray++Builtin.zeroCells z.cells (gc-(xs++ys).length)).toList.drop (i*Γ.P.cellsOf E)).take (Γ.P.cellsOf E)):=by intro i x hx;have h2:(i+1)*Γ.P.cellsOf E<=(xs++ys).length*Γ.P.cellsOf E:=Ay _ (by have:=(List.getElem?_eq_some_iff.1 hx).1;omega);rw [Nat.add_mul] at h2;simp only [Array.toList_append,List.toList_toArray];rw [List.drop_append_of_le_length (by omega),List.take_append_of_le_length (by rw [Be];omega)];exact ak i x hx
    obtain ⟨u0,u1,u2⟩:=hw.growArr (gb:=w.heap.size) (xs':=xs++ys) hk (w':=w.drew.alloc (.cells ((cur.toList.take (xs.length*Γ.P.cellsOf E)++L).toArray++Builtin.zeroCells z.cells (gc-(xs++ys).length)) E)) (Or.inl ⟨Nat.le_refl _,by simp⟩) (λb hb _=>aa4 w.drew _ b hb) (by simp) rfl rfl rfl (aas w.drew _) (by rw [am];exact Ay _ ai) ah;refine ⟨_,_,_,_,_,Or.inl rfl,u1,u2,?_⟩;have:=SRep.arr (P:=Γ.P) (D:=D) (w:=w.drew.alloc (.cells ((cur.toList.take (xs.length*Γ.P.cellsOf E)++L).toArray++Builtin.zeroCells z.cells (gc-(xs++ys).length)) E)) (ow:=upd ow w.heap.size (some k)) (μ:=upd μ k w.heap.size) (cap:=gc) u0 ai av (by rw [aah];exact aas w.drew _) (by rw [aah,aah]) am.symm;rwa [aah] at this
theorem WRel.arrNew (h:WRel Γ D ow μ st w) (E:TypeId):WRel Γ D ow μ (st++[.arr E 0 []]) w/\Moves D w ow μ st D w ow μ (st++[.arr E 0 []]):=by
 have aa:∀ {k:Nat}{y:BX},st[k]?=some y->k<st.length:=λe=>(List.getElem?_eq_some_iff.1 e).1;have z:∀ {k:Nat}{y:BX},st[k]?=some y->(st++[BX.arr E 0 []])[k]?=some y:=λ{k y} e=>by rw [Au (aa e)];exact e
 have H:∀ {k:Nat}{y:BX},(st++[BX.arr E 0 []])[k]?=some y->y≠.arr E 0 []->st[k]?=some y:=by
  intro k y e hy;by_cases M:k<st.length
  ·rwa [Au M] at e
  ·have O:k=st.length:=by have:=(List.getElem?_eq_some_iff.1 e).1;simp at this;omega
   subst O;rw [Av (Nat.le_refl _)] at e;simp at e;exact absurd e.symm hy
 have m:Moves D w ow μ st D w ow μ (st++[.arr E 0 []]):=
  ⟨λ_ _ d=>d,Keeps.refl _ _,λk _ _ e=>⟨rfl,_,z e⟩,λk _ _ _ e=>⟨rfl,_,z e⟩,λk _ e _=>⟨rfl,_,z e,rfl⟩,λk _ _ _ e=>⟨_,_,z e,Nat.le_refl _,λ_=>⟨rfl,ArrKeep.refl _ _ _ _ _⟩⟩,λk g0 e=>⟨_,z e,Nat.le_refl _,λ_ b J=>⟨rfl,J,λ_ d=>d⟩⟩⟩
 have I:∀ k,k<Γ.np->∃ b,(st++[BX.arr E 0 []])[k]?=some b/\b.kind=Γ.K0 k:=λk M=>by obtain ⟨s,hs,h1⟩:=h.par k M;exact ⟨s,z hs,h1⟩
 refine ⟨⟨λk T s e=>?_,λk K E es e=>?_,λk b e=>?_,λb k J=>⟨(h.owlt b k J).1,by have:=(h.owlt b k J).2;simp;omega⟩,h.dlt,h.os,h.tape,h.output,h.hs,h.old,h.dom0,h.domN,h.owN,by have:=h.np;simp;omega,h.mu0,I,λb k y J e hy o d=>?_,h.keep0.trans m.keeps h.dom0,h.arr0_moves m I⟩,m⟩
 ·obtain ⟨c,T1,q1,q2,q3,q4,q5⟩:=h.box k T s (H e (by simp));exact ⟨c,T1,q1,q2,q3,q4,q5.mono m⟩
 ·exact h.map k K E es (H e (by simp))
 ·by_cases hb:b=.arr E 0 []
  ·subst hb;exact Or.inl rfl
  ·exact (h.obj k _ (H e hb)).mono m.dom m.keeps (λ_=>rfl) (λ_ o=>⟨rfl,o,λ_ d=>d⟩)
 ·have Z:=(h.owlt b k J).2;rw [Au Z] at e;exact h.lone b k y J e hy o d
theorem a6c (hw:WRel Γ D ow μ st w) {E:TypeId} (ah:0<Γ.P.cellsOf E) {y:SV}{yv:Value}{ys:List PV} (hy:SRep Γ.P D w ow μ st y yv) (hl:a4h st y=some ys) (O:axv Γ.P E y=true):(ys=[]/\(yv=.slice none 0 0\/∃ b c',yv=.slice (some b) 0 c'))\/
 ∃ (b off cap:Nat) (L:List Value),yv=.slice (some ⟨b,off,none⟩) ys.length cap/\0<ys.length/\L.length=ys.length*Γ.P.cellsOf E/\(∀ (i:Nat) (x:PV),ys[i]?=some x->Rep Γ.P D w E x ((L.drop (i*Γ.P.cellsOf E)).take (Γ.P.cellsOf E)))/\
  (∀ j u,L[j]?=some u->w.cell? ((⟨b,off,none⟩:Addr).add j)=some u):=by
 have plain:∀ (z:SV),SRep Γ.P D w ow μ st z yv->al0 z=some ys->alo Γ.P E z=true->(ys=[]/\(yv=.slice none 0 0\/∃ b c',yv=.slice (some b) 0 c'))\/
  ∃ (b off cap:Nat) (L:List Value),yv=.slice (some ⟨b,off,none⟩) ys.length cap/\0<ys.length/\L.length=ys.length*Γ.P.cellsOf E/\(∀ (i:Nat) (x:PV),ys[i]?=some x->Rep Γ.P D w E x ((L.drop (i*Γ.P.cellsOf E)).take (Γ.P.cellsOf E)))/\
   (∀ j u,L[j]?=some u->w.cell? ((⟨b,off,none⟩:Addr).add j)=some u):=by
  intro z hz hl O
  have ae:=aj3 hz hl O
  cases ae with
  | @nil a c aa=>
   cases a with
   | none=>have:=aa rfl;subst this;exact Or.inl ⟨rfl,Or.inl rfl⟩
   | some a=>exact Or.inl ⟨rfl,Or.inr ⟨a,c,rfl⟩⟩
  | @mk b off cap _ L ag hL M I=>
   cases ys with
   | nil=>exact Or.inl ⟨rfl,Or.inr ⟨⟨b,off,none⟩,cap,rfl⟩⟩
   | cons q r=>exact Or.inr ⟨b,off,cap,L,rfl,by simp,hL,M,λj u J=>by rw [ab6];exact (I j u J).2⟩
 cases y with
 | arr k g E'=>
  have:=Aa (show Nat.beq E E'=true from O)
  subst this
  have Z:=adb (show agh st k g E=some ys from hl)
  cases hy with
  | arrOld o h2 _=>rw [Z] at o;cases o;omega
  | @arrNil _ _ _ a o=>
   rw [Z] at o;cases o
   cases a with
   | none=>exact Or.inl ⟨rfl,Or.inl rfl⟩
   | some a=>exact Or.inl ⟨rfl,Or.inr ⟨a,0,rfl⟩⟩
  | @arr _ _ cap _ _ cur o h2 h3 h4 h5 h6=>
   rw [Z] at o;cases o
   cases ys with
   | nil=>exact Or.inl ⟨rfl,Or.inr ⟨_,_,rfl⟩⟩
   | cons q r=>
    rcases hw.obj k _ Z with h | ⟨af,a1,a2,a3,a4,a5⟩
    ·cases h
    ·rw [h4] at a1;cases a1;have H:(cur.toList.take ((q::r).length*Γ.P.cellsOf E)).length=(q::r).length*Γ.P.cellsOf E:=by rw [List.length_take];exact Nat.min_eq_left (by simpa using a4)
     refine Or.inr ⟨μ k,0,cap,cur.toList.take ((q::r).length*Γ.P.cellsOf E),rfl,by simp,H,λi x hi=>?_,λj u J=>?_⟩
     ·have ab:=(List.getElem?_eq_some_iff.1 hi).1;have hm:i*Γ.P.cellsOf E+Γ.P.cellsOf E<=(q::r).length*Γ.P.cellsOf E:=by rw [<-Nat.succ_mul];exact Ay _ ab
      have:=a5 i x hi;rwa [List.drop_take,List.take_take,Nat.min_eq_left (by omega)]
     ·have ad:j<(q::r).length*Γ.P.cellsOf E:=by rw [<-H];exact (List.getElem?_eq_some_iff.1 J).1
      rw [List.getElem?_take_of_lt ad] at J;rw [ab6,Nat.zero_add];simp only [World.cell?,h4];simpa using J
 | _=>exact plain _ hy hl O
theorem ap2 (hw:WRel Γ D ow μ st w) (T ty:TypeId) (x y:SV) (xv yv:Value) (v:SV) (st':List BX) (hx:SRep Γ.P D w ow μ st x xv) (hy:SRep Γ.P D w ow μ st y yv) (h:acw Γ.P st T x y=.upd true v st'):
 ∃ u w',(Builtin.append_ #[T,T] ty #[xv,yv]).run Γ.P w=.ok u w'/\OpRes Γ D ow μ st w (.ok (.value u) w') v st':=by
 unfold acw at h
 split at h
 ·rename_i E ys hT hl;cases hc:(axv Γ.P E y&&Nat.ble (Γ.P.bytesOf E) 512&&!(Nat.beq (Γ.P.bytesOf E) 0)&&!(Nat.beq (Γ.P.cellsOf E) 0)&&ack Γ.P E) with
  | false=>rw [hc] at h;simp at h
  | true=>
   rw [hc] at h;simp only [Af] at h;simp only [Ai,Bool.not_eq_true'] at hc;obtain ⟨⟨⟨⟨c1,c2⟩,c3⟩,c4⟩,c5⟩:=hc;have av:0<Γ.P.cellsOf E:=by
    rcases Nat.eq_zero_or_pos (Γ.P.cellsOf E) with h0 | h0
    ·rw [h0] at c4;cases c4
    ·exact h0
   have aM:Γ.P.bytesOf E<=512:=Aw c2;obtain ⟨J,z,hi,al,aa,ao,a3,a5,a4⟩:=abw (Γ:=Γ) (D:=D) (ow:=ow) (μ:=μ) (st:=st) (w:=w) c5;have aP:J.bytes=Γ.P.bytesOf E:=by simp [Program.bytesOf,hi]
   have ab:=a6c hw av hy hl c1;have M:∀ n,n<=aae->n*J.bytes<=140737488355328:=by intro n hn;have h1:n*J.bytes<=aae*512:=Nat.mul_le_mul hn (by rw [aP];exact aM);unfold aae at h1;omega
   split at h
   ·simp only [Ac.upd.injEq,A6] at h;obtain ⟨hb,rfl,rfl⟩:=h;cases hx;rcases ab with ⟨rfl,hv⟩ | ⟨b,off,cap,L,rfl,ak,hL,ad,H⟩
    ·refine ⟨_,w,abl w T ty E J hT hi none 0 0 (by omega) yv hv (λ_=>⟨rfl,rfl⟩),?_⟩;obtain ⟨u1,u2⟩:=hw.accNil;exact ⟨_,_,_,_,_,Or.inl rfl,u1,u2,.acc (.nil λ_=>rfl) (by rw [Av (Nat.le_refl _)];simp) (Nat.le_refl _) (λ_=>Or.inl rfl)⟩
    ·have ax:ys.length*J.bytes<=281474976710656:=by have:=M _ hb;omega
     have hr:=run_append_nil (P:=Γ.P) w T ty E J z hT hi al ⟨b,off,none⟩ ys.length cap L (by rw [aa];exact hL) H ak (by unfold aae at hb;omega) ax;refine ⟨_,_,hr,aji hw (Or.inl ⟨rfl,rfl⟩) 0 (by rw [Av (Nat.le_refl _)];simp) ao rfl hL (grownCap_ge _ _ _ _) (grownCap_le_maxLen _ _ _ _ (by unfold aae at hb;unfold maxLen;omega)) ad⟩
   ·rename_i k g E' xs;cases hg:(Nat.beq E E'&&amw st k g) with
    | false=>rw [hg] at h;simp at h
    | true=>
     rw [hg] at h;simp only [Af,Ac.upd.injEq,A6] at h;obtain ⟨hb,rfl,rfl⟩:=h;simp only [Ai] at hg;have:=Aa hg.1;subst this;have aF:=hg.2;cases hx with
     | @acc _ _ g0 _ _ _ ag hk a2 aK=>
      simp only [amw,hk] at aF;have:=Aa aF;subst this;have aC:=(List.getElem?_eq_some_iff.1 hk).1;have au:(st.set k (BX.acc (g+1)))[k]?=some (.acc (g+1)):=by rw [List.getElem?_set_self aC]
      have ay:xs.length+ys.length<=maxLen:=by unfold aae at hb;unfold maxLen;omega
      have own:=aK rfl;rcases ab with ⟨rfl,hv⟩ | ⟨b,off,cap,L,rfl,ak,hL,ad,H⟩
      ·obtain ⟨u1,u2⟩:=hw.accBump hk;have fin:OpRes Γ D ow μ st w (.ok (.value xv) w) (.acc k (g+1) E (xs++[])) (st.set k (.acc (g+1))):=by
        rw [List.append_nil];exact ⟨_,_,_,_,_,Or.inl rfl,u1,u2,.acc ag au (Nat.le_refl _) (λ_=>own)⟩
       refine ⟨xv,w,?_,fin⟩;rcases own with rfl | ⟨gb,cap,cur,rfl,_,aj,_⟩
       ·exact abl w T ty E J hT hi none 0 0 (by omega) yv hv (λ_=>⟨rfl,rfl⟩)
       ·exact abl w T ty E J hT hi _ _ _ aj yv hv (λh=>by cases h)
      ·have O:(xs++ys).length=xs.length+ys.length:=by simp
       rcases own with rfl | ⟨gb,ap,cur,rfl,Z,aj,aI,az,aQ,am⟩
       ·have aS:xs=[]:=by cases ag;rfl
        subst aS;simp only [A9,Ao,Nat.zero_add] at*;have ax:ys.length*J.bytes<=281474976710656:=by have:=M _ hb;omega
        have hr:=run_append_nil (P:=Γ.P) w T ty E J z hT hi al ⟨b,off,none⟩ ys.length cap L (by rw [aa];exact hL) H ak (by unfold aae at hb;omega) ax;exact ⟨_,_,hr,aji hw (Or.inr ⟨g,hk,rfl⟩) (g+1) au ao rfl hL (grownCap_ge _ _ _ _) (grownCap_le_maxLen _ _ _ _ ay) ad⟩
       ·obtain ⟨I,ae,aD,aA⟩:=ag.held;have ar:∀ j u,I[j]?=some u->w.cell? ((⟨gb,0,none⟩:Addr).add j)=some u:=λj u hj=>by rw [ab6];exact (aA j u hj).2
        have an:cur.toList.take I.length=I:=by
         apply List.ext_getElem?;intro j;by_cases hj:j<I.length
         ·rw [List.getElem?_take_of_lt hj];have:=ar j _ (Aq hj);rw [ab6,Nat.zero_add] at this;simp only [World.cell?,Z] at this;rw [Aq hj];simpa using this
         ·rw [A4 (by simp;omega),A4 (by omega)]
        have ai:=ag9 ae hL aD ad;have aq:(I++L).length=(xs++ys).length*Γ.P.cellsOf E:=by simp [ae,hL,Nat.add_mul]
        by_cases af:xs.length+ys.length<=ap
        ·have aE:xs.length*J.size+L.length<=cur.size:=by rw [aa,hL,az,<-Nat.add_mul];exact Ay _ af
         have hr:=run_append_room (P:=Γ.P) w T ty E J hT hi gb xs.length ap cur Z ⟨b,off,none⟩ ys.length cap L (by rw [aa];exact hL) H (aja hL av ad) af aE;refine ⟨_,_,hr,?_⟩;have aT:xs.length*Γ.P.cellsOf E=I.length:=ae.symm;have e1:cur.toList.take (xs.length*J.size)++L++cur.toList.drop (xs.length*J.size+L.length)=I++L++cur.toList.drop (I.length+L.length):=by rw [aa,aT,an]
         rw [e1];have aw:(w.setRow gb (I++L++cur.toList.drop (I.length+L.length)).toArray).heap[gb]?=some (.cells (I++L++cur.toList.drop (I.length+L.length)).toArray E (0,0)):=setRow_heap w gb cur _ E _ Z;have aN:I.length+L.length<=cur.size:=by rw [ae,hL,az,<-Nat.add_mul];exact Ay _ af
         have aB:Keeps D w (w.setRow gb (I++L++cur.toList.drop (I.length+L.length)).toArray):=by
          refine ⟨λb' o d=>?_,λb' o d es c he=>?_⟩
          ·by_cases ah:b'=gb
           ·subst ah;have ho:o<I.length:=by
             rcases Nat.lt_or_ge o I.length with h' | h'
             ·exact h'
             ·exact absurd d (am o (by omega))
            simp only [World.cell?,aw,Z];have:cur.toList[o]?=I[o]?:=by rw [<-an,List.getElem?_take_of_lt ho]
            simp only [Option.isSome_none,A7,A8];rw [List.getElem?_toArray,Ap,Au ho,<-this];simp
           ·exact cell?_of_heap (setRow_other w gb b' _ ah) o
          ·by_cases ah:b'=gb
           ·subst ah;rw [Z] at he;cases he
           ·rw [setRow_other w gb b' _ ah];exact he
         rw [<-O];refine aod hw (Or.inr ⟨g,hk,rfl⟩) (gb:=gb) (Or.inr aQ) (λb' _ ah=>setRow_other w gb b' _ ah) (by simp) rfl rfl rfl aB aq aw (by rw [List.toList_toArray,List.take_left]) (by rw [O];exact af) aI ?_ (λo ho=>am o ?_) ai (g+1) au
         ·have aZ:I.length+L.length<=cur.toList.length:=by simpa using aN
          have a1:cur.toList.length=cur.size:=by simp
          rw [<-az,List.size_toArray,Ak,Ak,Be];omega
         ·rw [O,Nat.add_mul] at ho;omega
        ·have hr:=run_append_grow (P:=Γ.P) w T ty E J z hT hi al ⟨gb,0,none⟩ xs.length ap I (by rw [aa];exact ae) ar ⟨b,off,none⟩ ys.length cap L (by rw [aa];exact hL) H (by omega) (by unfold aae at hb;omega) (growslice_fits (by omega) (M _ hb));refine ⟨_,_,hr,?_⟩;rw [show I.toArray++L.toArray=(I++L).toArray by simp];exact aji hw (Or.inr ⟨g,hk,rfl⟩) (g+1) au ao O.symm aq (by rw [O];exact grownCap_ge _ _ _ _) (grownCap_le_maxLen _ _ _ _ ay) ai
   ·rename_i E';cases hg:Nat.beq E E' with
    | false=>rw [hg] at h;simp at h
    | true=>
     rw [hg] at h;simp only [Af,Ac.upd.injEq,A6] at h;obtain ⟨hb,rfl,rfl⟩:=h;have:=Aa hg;subst this;cases hx with
     | @lit _ _ a ag=>
      obtain ⟨u1,u2⟩:=hw.arrNew E;have aG:(st++[BX.arr E 0 []])[st.length]?=some (.arr E 0 []):=by rw [Av (Nat.le_refl _)];simp
      obtain ⟨u,w',r1,v1,w1,D1,aV,aX,r2,r3,r4,r5⟩:=ang u1 T ty E (ys:=ys) (yv:=yv) hT hi al aa ao av M aG (xv:=.slice (some a) 0 0) (.arrNil aG) ab (by simpa using hb);have e1:(st++[BX.arr E 0 []]).set st.length (.arr E (0+1) ([]++ys))=st++[.arr E 1 ys]:=by simp
      rw [e1] at r3 r4 r5;exact ⟨u,w',r1,v1,w1,D1,aV,aX,r2,r3,u2.trans r4,r5⟩
   ·rename_i E' x0 aW;generalize aU:x0::aW=xs at hx h;clear aU;cases hg:Nat.beq E E' with
    | false=>rw [hg] at h;simp at h
    | true=>
     rw [hg] at h;simp only [Af,Ac.upd.injEq,A6] at h;obtain ⟨hb,rfl,rfl⟩:=h;have:=Aa hg;subst this;cases hx with
     | @lit _ _ a ag=>
      have O:(xs++ys).length=xs.length+ys.length:=by simp
      rcases ab with ⟨rfl,hv⟩ | ⟨b,off,cap,L,rfl,ak,hL,ad,H⟩
      ·refine ⟨_,w,abl w T ty E J hT hi _ _ _ (Nat.le_refl _) yv hv (λh=>by cases h),?_⟩;rw [List.append_nil];exact OpRes.still hw rfl (.slice ag)
      ·have aH:∃ (I:List Value),I.length=xs.length*Γ.P.cellsOf E/\(∀ (i:Nat) (x:PV),xs[i]?=some x->Rep Γ.P D w E x ((I.drop (i*Γ.P.cellsOf E)).take (Γ.P.cellsOf E)))/\∀ j u,I[j]?=some u->w.cell? (a.add j)=some u:=by
        generalize hn:xs.length=n at ag;generalize aR:Value.slice (some a) n n=vv at ag;cases ag with
        | nil=>exact ⟨[],by simp at hn;simp [<-hn],λi x hi=>by simp at hi,λj u hj=>by simp at hj⟩
        | @mk b0 a0 aY _ I h1 h2 h3 h4=>cases aR;exact ⟨I,by rw [h2],h3,λj u hj=>by rw [ab6];exact (h4 j u hj).2⟩
       obtain ⟨I,ae,aD,ar⟩:=aH;have ai:=ag9 ae hL aD ad;have aq:(I++L).length=(xs++ys).length*Γ.P.cellsOf E:=by simp [ae,hL,Nat.add_mul]
       have ay:xs.length+ys.length<=maxLen:=by unfold aae at hb;unfold maxLen;omega
       have hr:=run_append_grow (P:=Γ.P) w T ty E J z hT hi al a xs.length xs.length I (by rw [aa];exact ae) ar ⟨b,off,none⟩ ys.length cap L (by rw [aa];exact hL) H (by omega) (by unfold aae at hb;omega) (growslice_fits (by omega) (M _ hb));refine ⟨_,_,hr,?_⟩;rw [show I.toArray++L.toArray=(I++L).toArray by simp];generalize aj:grownCap _ _ _ _=gc;have aO:(xs++ys).length<=gc:=by rw [O,<-aj];exact grownCap_ge _ _ _ _
       rw [<-O];have g:Grew w (w.drew.alloc (.cells ((I++L).toArray++Builtin.zeroCells z.cells (gc-(xs++ys).length)) E)):=(Grew.drawn w (w.drawn+1)).trans (Grew.alloc w.drew _);refine OpRes.grew hw (D':=λb o=>D b o\/(b=w.heap.size/\o<(I++L).length)) rfl g (λb o d=>Or.inl d) (λb o d=>d.imp id (λd=>⟨by omega,by rw [d.1];simp⟩)) (λm=>.slice ?_);refine .mk aO aq (λi x hx=>(ai i x hx).mono m.dom m.keeps) (λj u hj=>?_);have aC:=(List.getElem?_eq_some_iff.1 hj).1;refine ⟨Or.inr ⟨rfl,by omega⟩,?_⟩;have aJ:(w.drew.alloc (.cells ((I++L).toArray++Builtin.zeroCells z.cells (gc-(xs++ys).length)) E)).heap[w.heap.size]?=some (.cells ((I++L).toArray++Builtin.zeroCells z.cells (gc-(xs++ys).length)) E (0,0)):=aas w.drew _;simp only [Nat.zero_add,World.cell?,aJ];simp only [Option.isSome_none,A7,A8];rw [Array.getElem?_append_left (by simpa using aC)];simpa using hj
   ·rename_i k g E';cases hg:Nat.beq E E' with
    | false=>rw [hg] at h;simp at h
    | true=>
     rw [hg] at h;simp only [Af] at h;have:=Aa hg;subst this;split at h;case h_2=>cases h
     rename_i xs aL;have hk:=adb aL;simp only [Ac.upd.injEq,A6] at h;obtain ⟨hb,rfl,rfl⟩:=h;exact ang hw T ty E hT hi al aa ao av M hk hx ab hb
   ·simp at h
 ·simp at h
theorem al3 (hw:WRel Γ D ow μ st w) (T:TypeId) (x y:SV) (xv yv:Value) (v:SV) (st':List BX) (hx:SRep Γ.P D w ow μ st x xv) (hy:SRep Γ.P D w ow μ st y yv) (h:ac0 Γ.P T x y st=.upd true v st'):
 ∃ u w',(Instr.makeSlice T xv yv).run Γ.P w=.ok u w'/\OpRes Γ D ow μ st w (.ok (.value u) w') v st':=by
 unfold ac0 at h
 split at h
 ·rename_i E c hT;cases I:(ack Γ.P E&&!(Nat.beq (Γ.P.cellsOf E) 0)&&Nat.ble (Γ.P.bytesOf E) 512) with
  | false=>rw [I] at h;cases h
  | true=>
   rw [I] at h;simp only [Af,Ac.upd.injEq,A6] at h;obtain ⟨M,rfl,rfl⟩:=h;simp only [Ai,Bool.not_eq_true'] at I;obtain ⟨⟨c1,c2⟩,c3⟩:=I;have Z:Γ.P.bytesOf E<=512:=Aw c3;obtain ⟨H,z,J,ad,ab,ah,ae,ag,af⟩:=abw (Γ:=Γ) (D:=D) (ow:=ow) (μ:=μ) (st:=st) (w:=w) c1;have aa:H.bytes=Γ.P.bytesOf E:=by simp [Program.bytesOf,J]
   cases hx;cases hy;obtain ⟨n,rfl⟩:∃ n:Nat,c=(n:Int):=⟨c.toNat,by omega⟩;have hn:n<=68719476736:=by unfold aae at M;omega
   have O:(H.bytes:Int)*(n:Int)<=281474976710656:=by
    have h1:H.bytes*n<=512*68719476736:=Nat.mul_le_mul (by rw [aa];exact Z) hn;have h2:((H.bytes*n:Nat):Int)<=281474976710656:=by omega
    rwa [Int.natCast_mul] at h2
   have hr:=run_make (P:=Γ.P) w T E H z hT J ad .i64 .i64 0 n (Int.le_refl _) (by omega) O (by omega);simp only [Int.toNat_zero,Aj] at hr;refine ⟨_,_,hr,aod hw (Or.inl ⟨rfl,rfl⟩) (gb:=w.heap.size) (zs:=[]) (L:=[]) (Or.inl ⟨Nat.le_refl _,by simp⟩) (λb M _=>aa4 w _ b M) (by simp) rfl rfl rfl
    (Keeps.of_heap λb o d=>aa4 w _ b (hw.dlt b o d)) (by simp) (aas w _) (by simp) (by simp) (by unfold maxLen;omega) (by rw [size_madeCells,ab]) (λo _ d=>by have:=hw.dlt _ _ d;omega) (λi x J=>by simp at J) 0 (by rw [Av (Nat.le_refl _)];simp)⟩
 ·cases h
end
end Go.Ab
