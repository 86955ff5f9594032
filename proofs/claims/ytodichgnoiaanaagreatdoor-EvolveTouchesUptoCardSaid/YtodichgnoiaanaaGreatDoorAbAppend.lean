/- append. -/
import Derived.Test.YtodichgnoiaanaaGreatDoorAbIter
set_option linter.unusedVariables false
set_option linter.unusedSimpArgs false
set_option linter.unnecessarySimpa false
namespace Go.Ab
open Go
section
variable {Γ:Ctx}{D:Dom}{ow:Own}{μ:Nat->Nat}{st:List BX}{w:World}
theorem WRel.setAcc (H:WRel Γ D ow μ st w) {k gb:Nat}{st':List BX} (au:(k=st.length/\st'=st++[.acc 0])\/(∃ g,st[k]?=some (.acc g)/\st'=st.set k (.acc (g+1)))) {w':World}{D':Dom}
 (ah:(w.heap.size<=gb/\gb<w'.heap.size)\/ow gb=some k) (z:∀ b,b<w.heap.size->b≠gb->w'.heap[b]?=w.heap[b]?) (ao:w.heap.size<=w'.heap.size)
 (am:w'.os=w.os) (ap:w'.tape=w.tape) (an:w'.output=w.output) (hD:∀ b o,D b o->D' b o) (hN:∀ b o,D' b o->D b o\/b=gb) (al:Keeps D w w'):
 WRel Γ D' (upd ow gb (some k)) μ st' w'/\Moves D w ow μ st D' w' (upd ow gb (some k)) μ st':=by
 have aa:∀ y,st[k]?=some y->∃ g,y=.acc g:=by grind
 have ab:∀ {j:Nat}{y:BX},st[j]?=some y->j≠k->st'[j]?=some y:=by grind
 have Z:∀ {j:Nat}{y:BX},st'[j]?=some y->j≠k->st[j]?=some y:=by grind
 have af:∃ g1,st'[k]?=some (.acc g1)/\∀ g,st[k]?=some (.acc g)->g<g1:=by grind
 have aq:st.length<=st'.length/\k<st'.length:=by grind
 have M:∀ {j b:Nat},ow b=some j->j≠k->b≠gb:=by
  intro j b O I e;subst e;rcases ah with h | h
  ·have:=(H.owlt b j O).1;omega
  grind
 have ag:Γ.B<=gb\/ow gb=some k:=ah.imp (λh=>by have:=H.hs;omega) id
 have ar:gb<w'.heap.size:=by
  rcases ah with h | h
  ·exact h.2
  ·have:=(H.owlt gb k h).1;omega
 have m:Moves D w ow μ st D' w' (upd ow gb (some k)) μ st':=by
  refine ⟨hD,al,λj T x e=>⟨rfl,?_⟩,λj K E es e=>⟨rfl,?_⟩,λj b e hs=>⟨rfl,b,?_,rfl⟩,λj E g xs e=>?_,λj g e=>?_⟩
  ·grind
  ·grind
  ·have I:j≠k:=λI=>by subst I;obtain ⟨g,hg⟩:=aa _ e;subst hg;exact hs rfl
   exact ab e I
  ·have I:j≠k:=λI=>by grind
   refine ⟨g,xs,ab e I,Nat.le_refl _,λ_=>⟨rfl,λcur hc ai=>?_⟩⟩;have J:=M ai I;exact ⟨rfl,by grind [aak],cur,(z _ (H.owlt _ j ai).1 J).trans hc,rfl⟩
  ·by_cases I:j=k
   ·grind
   ·refine ⟨g,ab e I,Nat.le_refl _,λ_ b O=>?_⟩;have J:=M O I;refine ⟨z b (H.owlt b j O).1 J,by grind [aak],λo d=>(hN b o d).resolve_right J⟩
 have ae:∀ j,j<Γ.np->∃ b,st'[j]?=some b/\b.kind=Γ.K0 j:=by
  intro j I;obtain ⟨x,hx,p1⟩:=H.par j I;by_cases ak:j=k
  ·subst ak;obtain ⟨g,hg⟩:=aa _ hx;subst hg;obtain ⟨g1,h1,_⟩:=af;exact ⟨_,h1,p1⟩
  grind
 refine ⟨⟨λj T x e=>?_,λj K E es e=>?_,λj x e=>?_,λb j O=>?_,λb o d=>?_,am.trans H.os,ap.trans H.tape,an.trans H.output,Nat.le_trans H.hs ao,λb J hn=>?_,λb o d=>hD b o (H.dom0 b o d),λb o d=>?_,λb j O J=>?_,Nat.le_trans H.np aq.1,H.mu0,ae,λb j y O e hy o d=>?_,H.keep0.trans m.keeps H.dom0,H.arr0_moves m ae⟩,m⟩
 ·have I:j≠k:=λI=>by grind
  obtain ⟨c,T1,q1,q2,q3,q4,q5⟩:=H.box j T x (Z e I);have J:=M q3 I;exact BoxRep.mono ⟨c,T1,q1,q2,q3,q4,q5⟩ m rfl (z _ (H.owlt _ _ q3).1 J) (by grind [aak]) (λo d=>q4 o ((hN _ o d).resolve_right J))
 ·have I:j≠k:=λI=>by grind
  obtain ⟨ents,clock,kc,vc,q1,q2,q3⟩:=H.map j K E es (Z e I);have J:=M q2 I;exact OMapRep.mono ⟨ents,clock,kc,vc,q1,q2,q3⟩ m.dom m.keeps rfl (z _ (H.owlt _ _ q2).1 J) (by grind [aak]) (λo d=>q3.1 o ((hN _ o d).resolve_right J))
 ·by_cases I:j=k
  ·subst I;obtain ⟨g1,h1,_⟩:=af;rw [h1] at e;cases e;trivial
  ·refine (H.obj j x (Z e I)).mono m.dom m.keeps (λ_=>rfl) (λc oc=>?_);have J:=M oc I;exact ⟨z _ (H.owlt _ _ oc).1 J,by grind [aak],λo d=>(hN _ o d).resolve_right J⟩
 ·by_cases J:b=gb
  ·grind [aah]
  ·rw [aak _ _ J] at O;have:=H.owlt b j O;grind
 ·rcases hN b o d with d | d
  ·have:=H.dlt b o d;omega
  grind
 ·have ad:b≠gb:=λaj=>by
   subst aj;rcases ag with h | h
   ·omega
   ·have:=H.owN b k h J;grind
  exact (z b (by have:=H.hs;omega) ad).trans (H.old b J hn)
 ·rcases hN b o d with d | d
  ·exact H.domN b o d
  ·subst d;rcases ag with h | h
   ·grind
   ·by_cases J:b<Γ.B
    ·exact Or.inr (Or.inr (by rw [H.owN b k h J];simp))
    grind
 ·by_cases ad:b=gb
  ·subst ad;rw [aah] at O;cases O;rcases ag with h | h
   ·omega
   ·exact H.owN b k h J
  ·rw [aak _ _ ad] at O;exact H.owN b j O J
 ·by_cases I:j=k
  ·subst I;obtain ⟨g1,h1,_⟩:=af;rw [h1] at e;cases e;exact hy _ rfl
  ·by_cases J:b=gb
   ·rw [J,aah] at O;cases O;exact I rfl
   ·rw [aak _ _ J] at O;exact H.lone b j y O (Z e I) hy o ((hN b o d).resolve_right J)
theorem WRel.growArr (I:WRel Γ D ow μ st w) {k g gb:Nat}{E0:TypeId}{xs xs':List PV} (hk:st[k]?=some (.arr E0 g xs)) {w':World}{cur':Array Value}
 (ae:(w.heap.size<=gb/\gb<w'.heap.size)\/ow gb=some k) (H:∀ b,b<w.heap.size->b≠gb->w'.heap[b]?=w.heap[b]?) (al:w.heap.size<=w'.heap.size)
 (ap:w'.os=w.os) (ar:w'.tape=w.tape) (aq:w'.output=w.output) (hh:w'.heap[gb]?=some (.cells cur' E0 (0,0))) (an:xs'.length*Γ.P.cellsOf E0<=cur'.size)
 (hr:∀ (i:Nat) (x:PV),xs'[i]?=some x->Rep Γ.P D w E0 x ((cur'.toList.drop (i*Γ.P.cellsOf E0)).take (Γ.P.cellsOf E0))):
 (st.set k (.arr E0 (g+1) xs'))[k]?=some (.arr E0 (g+1) xs')/\WRel Γ D (upd ow gb (some k)) (upd μ k gb) (st.set k (.arr E0 (g+1) xs')) w'/\Moves D w ow μ st D w' (upd ow gb (some k)) (upd μ k gb) (st.set k (.arr E0 (g+1) xs')):=by
 have ak:=(A5.1 hk).1
 have ab:∀ o,¬D gb o:=by
  intro o d;rcases ae with h | h
  ·have:=I.dlt _ _ d;omega
  ·exact I.lone gb k _ h hk (by simp) o d
 have ao:Keeps D w w':=Keeps.of_heap λb o d=>H b (I.dlt b o d) (λe=>by subst e;exact ab o d)
 have Z:∀ {j:Nat}{y:BX},st[j]?=some y->j≠k->(st.set k (.arr E0 (g+1) xs'))[j]?=some y:=λe z=>by rw [Ao (by omega)];exact e
 have ad:∀ {j:Nat}{y:BX},(st.set k (.arr E0 (g+1) xs'))[j]?=some y->j≠k->st[j]?=some y:=λe z=>by rwa [Ao (by omega)] at e
 have aa:(st.set k (.arr E0 (g+1) xs'))[k]?=some (.arr E0 (g+1) xs'):=by rw [List.getElem?_set_self ak]
 have M:∀ {j b:Nat},ow b=some j->j≠k->b≠gb:=by
  intro j b O z e;subst e;rcases ae with h | h
  ·have:=(I.owlt b j O).1;omega
  ·rw [O] at h;cases h;exact z rfl
 have aj:gb<w'.heap.size:=by
  rcases ae with h | h
  ·exact h.2
  ·have:=(I.owlt gb k h).1;omega
 have mu:∀ {j:Nat},j≠k->upd μ k gb j=μ j:=λz=>aak _ _ z
 have m:Moves D w ow μ st D w' (upd ow gb (some k)) (upd μ k gb) (st.set k (.arr E0 (g+1) xs')):=by
  refine ⟨λ_ _ d=>d,ao,λj T x e=>?_,λj K E es e=>?_,λj b e hs=>?_,λj E g' ys e=>?_,λj g' e=>?_⟩
  ·have z:j≠k:=λz=>by subst z;rw [hk] at e;cases e
   exact ⟨mu z,_,Z e z⟩
  ·have z:j≠k:=λz=>by subst z;rw [hk] at e;cases e
   exact ⟨mu z,_,Z e z⟩
  ·have z:j≠k:=λz=>by subst z;rw [hk] at e;cases e;exact hs rfl
   exact ⟨mu z,b,Z e z,rfl⟩
  ·by_cases z:j=k
   ·subst z;rw [hk] at e;cases e;exact ⟨_,_,aa,by omega,λh=>by omega⟩
   ·refine ⟨g',ys,Z e z,Nat.le_refl _,λ_=>⟨rfl,λcur hc ai=>?_⟩⟩;have J:=M ai z;exact ⟨mu z,by rw [aak _ _ J];exact ai,cur,(H _ (I.owlt _ j ai).1 J).trans hc,rfl⟩
  ·have z:j≠k:=λz=>by subst z;rw [hk] at e;cases e
   refine ⟨g',Z e z,Nat.le_refl _,λ_ b O=>?_⟩;have J:=M O z;exact ⟨H b (I.owlt b j O).1 J,by rw [aak _ _ J];exact O,λo d=>d⟩
 have ah:∀ j,j<Γ.np->∃ b,(st.set k (.arr E0 (g+1) xs'))[j]?=some b/\b.kind=Γ.K0 j:=by
  intro j z;obtain ⟨x,hx,p1⟩:=I.par j z;by_cases af:j=k
  ·subst af;rw [hk] at hx;cases hx;exact ⟨_,aa,p1⟩
  ·exact ⟨x,Z hx af,p1⟩
 refine ⟨aa,⟨λj T x e=>?_,λj K E es e=>?_,λj x e=>?_,λb j O=>?_,λb o d=>Az (I.dlt b o d) al,ap.trans I.os,ar.trans I.tape,aq.trans I.output,Nat.le_trans I.hs al,λb J hn=>?_,I.dom0,I.domN,λb j O J=>?_,by simpa using I.np,λj z hK=>?_,ah,λb j y O e hy o d=>?_,I.keep0.trans m.keeps I.dom0,I.arr0_moves m ah⟩,m⟩
 ·have z:j≠k:=λz=>by subst z;rw [aa] at e;cases e
  obtain ⟨c,T1,q1,q2,q3,q4,q5⟩:=I.box j T x (ad e z);have J:=M q3 z;exact BoxRep.mono ⟨c,T1,q1,q2,q3,q4,q5⟩ m (mu z) (H _ (I.owlt _ _ q3).1 J) (by rw [aak _ _ J];exact q3) q4
 ·have z:j≠k:=λz=>by subst z;rw [aa] at e;cases e
  obtain ⟨ents,clock,kc,vc,q1,q2,q3⟩:=I.map j K E es (ad e z);have J:=M q2 z;exact OMapRep.mono ⟨ents,clock,kc,vc,q1,q2,q3⟩ m.dom m.keeps (mu z) (H _ (I.owlt _ _ q2).1 J) (by rw [aak _ _ J];exact q2) q3.1
 ·by_cases z:j=k
  ·subst z;rw [aa] at e;cases e;exact Or.inr ⟨cur',by rw [aah];exact hh,by rw [aah,aah],by rw [aah];exact ab,an,λi x hx=>(hr i x hx).mono m.dom m.keeps⟩
  ·refine (I.obj j x (ad e z)).mono m.dom m.keeps (λ_=>mu z) (λc oc=>?_);have J:=M oc z;exact ⟨H _ (I.owlt _ _ oc).1 J,by rw [aak _ _ J];exact oc,λo d=>d⟩
 ·by_cases J:b=gb
  ·rw [J,aah] at O;cases O;rw [J];exact ⟨aj,by simpa using ak⟩
  ·rw [aak _ _ J] at O;have:=I.owlt b j O;exact ⟨by omega,by simpa using this.2⟩
 ·have ag:b≠gb:=λam=>by
   subst am;rcases ae with h | h
   ·have:=I.hs;omega
   ·have:=I.owN b k h J;rw [hn] at this;cases this
  exact (H b (by have:=I.hs;omega) ag).trans (I.old b J hn)
 ·by_cases ag:b=gb
  ·subst ag;rw [aah] at O;cases O;rcases ae with h | h
   ·have:=I.hs;omega
   ·exact I.owN b k h J
  ·rw [aak _ _ ag] at O;exact I.owN b j O J
 ·by_cases af:j=k
  ·subst af;obtain ⟨x,hx,p1⟩:=I.par j z;rw [hk] at hx;cases hx;exact absurd p1.symm (hK E0)
  ·rw [mu af];exact I.mu0 j z hK
 ·by_cases z:j=k
  ·subst z;by_cases J:b=gb
   ·subst J;exact ab o d
   ·rw [aak _ _ J] at O;exact I.lone b j _ O hk (by simp) o d
  ·by_cases J:b=gb
   ·rw [J,aah] at O;cases O;exact z rfl
   ·rw [aak _ _ J] at O;exact I.lone b j y O (ad e z) hy o d
theorem WRel.arrBump (H:WRel Γ D ow μ st w) {k g:Nat}{O:TypeId}{xs:List PV} (Z:st[k]?=some (.arr O g xs)):
 (st.set k (.arr O (g+1) xs))[k]?=some (.arr O (g+1) xs)/\WRel Γ D ow μ (st.set k (.arr O (g+1) xs)) w/\Moves D w ow μ st D w ow μ (st.set k (.arr O (g+1) xs)):=by
 have ad:=(A5.1 Z).1
 have I:∀ {j:Nat}{y:BX},st[j]?=some y->j≠k->(st.set k (.arr O (g+1) xs))[j]?=some y:=λe z=>by rw [Ao (by omega)];exact e
 have M:∀ {j:Nat}{y:BX},(st.set k (.arr O (g+1) xs))[j]?=some y->j≠k->st[j]?=some y:=λe z=>by rwa [Ao (by omega)] at e
 have J:(st.set k (.arr O (g+1) xs))[k]?=some (.arr O (g+1) xs):=by rw [List.getElem?_set_self ad]
 have m:Moves D w ow μ st D w ow μ (st.set k (.arr O (g+1) xs)):=by
  refine ⟨λ_ _ d=>d,Keeps.refl _ _,λj T x e=>?_,λj K E es e=>?_,λj b e hs=>?_,λj E g' ys e=>?_,λj g' e=>?_⟩
  ·have z:j≠k:=λz=>by subst z;rw [Z] at e;cases e
   exact ⟨rfl,_,I e z⟩
  ·have z:j≠k:=λz=>by subst z;rw [Z] at e;cases e
   exact ⟨rfl,_,I e z⟩
  ·have z:j≠k:=λz=>by subst z;rw [Z] at e;cases e;exact hs rfl
   exact ⟨rfl,b,I e z,rfl⟩
  ·by_cases z:j=k
   ·subst z;rw [Z] at e;cases e;exact ⟨_,_,J,by omega,λh=>by omega⟩
   ·exact ⟨g',ys,I e z,Nat.le_refl _,λ_=>⟨rfl,ArrKeep.refl _ _ _ _ _⟩⟩
  ·have z:j≠k:=λz=>by subst z;rw [Z] at e;cases e
   exact ⟨g',I e z,Nat.le_refl _,λ_ b ob=>⟨rfl,ob,λ_ d=>d⟩⟩
 have aa:∀ j,j<Γ.np->∃ b,(st.set k (.arr O (g+1) xs))[j]?=some b/\b.kind=Γ.K0 j:=by
  intro j z;obtain ⟨x,hx,p1⟩:=H.par j z;by_cases ab:j=k
  ·subst ab;rw [Z] at hx;cases hx;exact ⟨_,J,p1⟩
  ·exact ⟨x,I hx ab,p1⟩
 refine ⟨J,⟨λj T s e=>?_,λj K E es e=>?_,λj b e=>?_,λb j ob=>by simpa using H.owlt b j ob,H.dlt,H.os,H.tape,H.output,H.hs,H.old,H.dom0,H.domN,H.owN,by simpa using H.np,H.mu0,aa,λb j y ob e hy o d=>?_,H.keep0.trans m.keeps H.dom0,H.arr0_moves m aa⟩,m⟩
 ·have z:j≠k:=λz=>by subst z;rw [J] at e;cases e
  obtain ⟨c,T1,q1,q2,q3,q4,q5⟩:=H.box j T s (M e z);exact ⟨c,T1,q1,q2,q3,q4,q5.mono m⟩
 ·have z:j≠k:=λz=>by subst z;rw [J] at e;cases e
  exact H.map j K E es (M e z)
 ·by_cases z:j=k
  ·subst z;rw [J] at e;cases e;have h0:asy Γ.P D w ow μ j O xs:=H.obj j _ Z;exact h0
  ·exact (H.obj j b (M e z)).mono m.dom m.keeps (λ_=>rfl) (λ_ o=>⟨rfl,o,λ_ d=>d⟩)
 ·by_cases z:j=k
  ·subst z;exact H.lone b j _ ob Z (by simp) o d
  ·exact H.lone b j y ob (M e z) hy o d
theorem WRel.arrCut (H:WRel Γ D ow μ st w) {k g:Nat}{O:TypeId}{xs:List PV}{n:Nat} (Z:st[k]?=some (.arr O g xs)):
 (st.set k (.arr O (g+1) (xs.take n)))[k]?=some (.arr O (g+1) (xs.take n))/\WRel Γ D ow μ (st.set k (.arr O (g+1) (xs.take n))) w/\Moves D w ow μ st D w ow μ (st.set k (.arr O (g+1) (xs.take n))):=by
 have ab:=(A5.1 Z).1
 have I:∀ {j:Nat}{y:BX},st[j]?=some y->j≠k->(st.set k (.arr O (g+1) (xs.take n)))[j]?=some y:=λe z=>by rw [Ao (by omega)];exact e
 have M:∀ {j:Nat}{y:BX},(st.set k (.arr O (g+1) (xs.take n)))[j]?=some y->j≠k->st[j]?=some y:=λe z=>by rwa [Ao (by omega)] at e
 have J:(st.set k (.arr O (g+1) (xs.take n)))[k]?=some (.arr O (g+1) (xs.take n)):=by rw [List.getElem?_set_self ab]
 have m:Moves D w ow μ st D w ow μ (st.set k (.arr O (g+1) (xs.take n))):=by
  refine ⟨λ_ _ d=>d,Keeps.refl _ _,λj T x e=>?_,λj K E es e=>?_,λj b e hs=>?_,λj E g' ys e=>?_,λj g' e=>?_⟩
  ·have z:j≠k:=λz=>by subst z;rw [Z] at e;cases e
   exact ⟨rfl,_,I e z⟩
  ·have z:j≠k:=λz=>by subst z;rw [Z] at e;cases e
   exact ⟨rfl,_,I e z⟩
  ·have z:j≠k:=λz=>by subst z;rw [Z] at e;cases e;exact hs rfl
   exact ⟨rfl,b,I e z,rfl⟩
  ·by_cases z:j=k
   ·subst z;rw [Z] at e;cases e;exact ⟨_,_,J,by omega,λh=>by omega⟩
   ·exact ⟨g',ys,I e z,Nat.le_refl _,λ_=>⟨rfl,ArrKeep.refl _ _ _ _ _⟩⟩
  ·have z:j≠k:=λz=>by subst z;rw [Z] at e;cases e
   exact ⟨g',I e z,Nat.le_refl _,λ_ b ob=>⟨rfl,ob,λ_ d=>d⟩⟩
 have aa:∀ j,j<Γ.np->∃ b,(st.set k (.arr O (g+1) (xs.take n)))[j]?=some b/\b.kind=Γ.K0 j:=by
  intro j z;obtain ⟨x,hx,p1⟩:=H.par j z;by_cases ad:j=k
  ·subst ad;rw [Z] at hx;cases hx;exact ⟨_,J,p1⟩
  ·exact ⟨x,I hx ad,p1⟩
 refine ⟨J,⟨λj T s e=>?_,λj K E es e=>?_,λj b e=>?_,λb j ob=>by simpa using H.owlt b j ob,H.dlt,H.os,H.tape,H.output,H.hs,H.old,H.dom0,H.domN,H.owN,by simpa using H.np,H.mu0,aa,λb j y ob e hy o d=>?_,H.keep0.trans m.keeps H.dom0,H.arr0_moves m aa⟩,m⟩
 ·have z:j≠k:=λz=>by subst z;rw [J] at e;cases e
  obtain ⟨c,T1,q1,q2,q3,q4,q5⟩:=H.box j T s (M e z);exact ⟨c,T1,q1,q2,q3,q4,q5.mono m⟩
 ·have z:j≠k:=λz=>by subst z;rw [J] at e;cases e
  exact H.map j K E es (M e z)
 ·by_cases z:j=k
  ·subst z;rw [J] at e;cases e;have h0:asy Γ.P D w ow μ j O xs:=H.obj j _ Z;rcases h0 with h0 | ⟨cur,q1,q2,q3,q4,q5⟩
   ·subst h0;exact Or.inl (by simp)
   ·refine Or.inr ⟨cur,q1,q2,q3,Nat.le_trans (Au _ (by simp;omega)) q4,λi x hi=>?_⟩;have ab:=(A5.1 hi).1;rw [List.getElem?_take_of_lt (by simp at ab;omega)] at hi;exact q5 i x hi
  ·exact (H.obj j b (M e z)).mono m.dom m.keeps (λ_=>rfl) (λ_ o=>⟨rfl,o,λ_ d=>d⟩)
 ·by_cases z:j=k
  ·subst z;exact H.lone b j _ ob Z (by simp) o d
  ·exact H.lone b j y ob (M e z) hy o d
theorem ah8 {E:TypeId}{xs ys:List PV}{o H:List Value} (O:o.length=xs.length*Γ.P.cellsOf E) (Z:H.length=ys.length*Γ.P.cellsOf E)
 (J:∀ (i:Nat) (x:PV),xs[i]?=some x->Rep Γ.P D w E x ((o.drop (i*Γ.P.cellsOf E)).take (Γ.P.cellsOf E)))
 (M:∀ (i:Nat) (x:PV),ys[i]?=some x->Rep Γ.P D w E x ((H.drop (i*Γ.P.cellsOf E)).take (Γ.P.cellsOf E))):
 ∀ (i:Nat) (x:PV),(xs++ys)[i]?=some x->Rep Γ.P D w E x (((o++H).drop (i*Γ.P.cellsOf E)).take (Γ.P.cellsOf E)):=by
 intro i x z
 by_cases h:i<xs.length
 ·rw [A3 h] at z;have:=J i x z;have I:(i+1)*Γ.P.cellsOf E<=xs.length*Γ.P.cellsOf E:=Au _ (by omega);rw [Nat.add_mul] at I;rw [List.drop_append_of_le_length (by omega),List.take_append_of_le_length (by rw [Bk];omega)];exact this
 ·rw [A7 (by omega)] at z;have:=M _ x z;have I:xs.length*Γ.P.cellsOf E<=i*Γ.P.cellsOf E:=Au _ (by omega);have e:i*Γ.P.cellsOf E=o.length+(i-xs.length)*Γ.P.cellsOf E:=by rw [Nat.sub_mul];omega
  rw [e,List.drop_append,Be (by omega),A6,Nat.add_sub_cancel_left];exact this
theorem aku {E:TypeId}{ys:List PV}{o:List Value} (M:o.length=ys.length*Γ.P.cellsOf E) (h:0<Γ.P.cellsOf E)
 (J:∀ (i:Nat) (x:PV),ys[i]?=some x->Rep Γ.P D w E x ((o.drop (i*Γ.P.cellsOf E)).take (Γ.P.cellsOf E))):∀ c,c∈o->c.oneCell'=true:=by
 intro c H
 obtain ⟨j,I,rfl⟩:=List.mem_iff_getElem.1 H
 have z:j / Γ.P.cellsOf E<ys.length:=by rw [Nat.div_lt_iff_lt_mul h];omega
 refine (J _ _ (Am z)).oneCell _ (List.mem_iff_getElem?.2 ⟨j%Γ.P.cellsOf E,?_⟩)
 rw [List.getElem?_take_of_lt (Nat.mod_lt _ h),List.getElem?_drop]
 have:=Nat.div_add_mod j (Γ.P.cellsOf E)
 rw [Nat.mul_comm] at this
 rw [this,Am I]
theorem aqz (hw:WRel Γ D ow μ st w) {k gb:Nat}{st':List BX} (ah:(k=st.length/\st'=st++[.acc 0])\/(∃ g,st[k]?=some (.acc g)/\st'=st.set k (.acc (g+1)))) {w':World}
 (ab:(w.heap.size<=gb/\gb<w'.heap.size)\/ow gb=some k) (H:∀ b,b<w.heap.size->b≠gb->w'.heap[b]?=w.heap[b]?) (ai:w.heap.size<=w'.heap.size)
 (af:w'.os=w.os) (aj:w'.tape=w.tape) (ag:w'.output=w.output) (ad:Keeps D w w')
 {E:TypeId}{zs:List PV}{L:List Value}{cur:Array Value}{cap off:Nat} (hL:L.length=zs.length*Γ.P.cellsOf E) (z:w'.heap[gb]?=some (.cells cur E (0,0))) (M:(cur.toList.drop off).take L.length=L) (I:zs.length<=cap) (O:cap<=maxLen) (Z:cur.size=off+cap*Γ.P.cellsOf E)
 (J:∀ o,off+zs.length*Γ.P.cellsOf E<=o->¬D gb o)
 (hr:∀ (i:Nat) (x:PV),zs[i]?=some x->Rep Γ.P D w E x ((L.drop (i*Γ.P.cellsOf E)).take (Γ.P.cellsOf E))) (g1:Nat) (aa:st'[k]?=some (.acc g1)):
 OpRes Γ D ow μ st w (.ok (.value (.slice (some ⟨gb,off,none⟩) zs.length cap)) w') (.acc k g1 E zs) st':=by
 obtain ⟨u1,u2⟩:=hw.setAcc ah (D':=λb o=>D b o\/(b=gb/\o<off+L.length)) ab H ai af aj ag (λb o d=>Or.inl d) (λb o d=>d.imp id (λh=>h.1)) ad
 refine ⟨_,_,_,_,_,Or.inl rfl,u1,u2,.acc ?_ aa (Nat.le_refl _) (λ_=>Or.inr ⟨gb,off,cap,cur,rfl,z,I,O,Z,aah _ _ _,λo ho d=>?_⟩)⟩
 ·refine .mk I hL (λi x hx=>(hr i x hx).mono u2.dom u2.keeps) (λj v hj=>?_);have ae:=(A5.1 hj).1;refine ⟨Or.inr ⟨rfl,by omega⟩,?_⟩;have:cur.toList[off+j]?=some v:=by
   rw [<-M,List.getElem?_take_of_lt ae,List.getElem?_drop] at hj;exact hj
  simp only [World.cell?,z];simpa using this
 ·rcases d with d | d
  ·exact J o ho d
  ·omega
theorem amu {P:Program} (w:World) (t ty e:TypeId) (i:TypeInfo) (ht:P.underlying t=some (.slice e)) (hi:P.info? e=some i)
 (g off o z:Nat) (cur:Array Value) (hg:w.heap[g]?=some (.cells cur e (0,0)))
 (a:Addr) (m c:Nat) (h:List Value) (hl:h.length=m*i.size) (H:∀ j u,h[j]?=some u->w.cell? (a.add j)=some u) (O:∀ u∈h,u.oneCell'=true)
 (I:o+m<=z) (J:off+o*i.size+h.length<=cur.size):
 (Builtin.append_ #[t,t] ty #[.slice (some ⟨g,off,none⟩) o z,.slice (some a) m c]).run P w=
  .ok (.slice (some ⟨g,off,none⟩) (o+m) z) (w.setRow g (cur.toList.take (off+o*i.size)++h++cur.toList.drop (off+o*i.size+h.length)).toArray):=by
 have Z:=run_firstCells_some (P:=P) w i.size m a m c h hl H
 have M:=run_storeCells_at P g (off+o*i.size) e h 0 cur w hg (by simpa using J) O
 simp only [Nat.add_zero] at M
 simp [Builtin.append_,run_underlying ht,sizeOf,typeInfo,hi,Builtin.lenOf,I,Z,Addr.add_lit,M]
theorem abi {P:Program} (w:World) (t Z e:TypeId) (i:TypeInfo) (J:P.underlying t=some (.slice e)) (H:P.info? e=some i) (a:Option Addr) (n c:Nat) (O:n<=c) (v:Value)
 (M:v=.slice none 0 0\/∃ b o,v=.slice (some b) 0 o) (h:a=none->n=0/\c=0):(Builtin.append_ #[t,t] Z #[.slice a n c,v]).run P w=.ok (.slice a n c) w:=by
 have z:∀ u,(Builtin.firstCells i.size 0 v).run P u=.ok #[] u:=by
  intro u;rcases M with rfl | ⟨b,o,rfl⟩
  ·simp [Builtin.firstCells]
  ·simp [Builtin.firstCells,loadCells,loadCellsFrom]
 have I:∀ u,(Builtin.lenOf v).run P u=.ok 0 u:=by intro u;rcases M with rfl | ⟨b,o,rfl⟩<;>simp [Builtin.lenOf]
 cases a with
 | none=>
  obtain ⟨rfl,rfl⟩:=h rfl
  simp [Builtin.append_,run_underlying J,sizeOf,typeInfo,H,I,z]
 | some b=>simp [Builtin.append_,run_underlying J,sizeOf,typeInfo,H,I,z,O,storeCells]
end
end Go.Ab
namespace Go.Ab
open Go
section
variable {Γ:Ctx}{D:Dom}{ow:Own}{μ:Nat->Nat}{st:List BX}{w:World}
theorem WRel.accNil (h:WRel Γ D ow μ st w):WRel Γ D ow μ (st++[.acc 0]) w/\Moves D w ow μ st D w ow μ (st++[.acc 0]):=by
 have aa:∀ {k:Nat}{y:BX},st[k]?=some y->k<st.length:=λe=>(A5.1 e).1;have H:∀ {k:Nat}{y:BX},st[k]?=some y->(st++[BX.acc 0])[k]?=some y:=λ{k y} e=>by grind
 have z:∀ {k:Nat}{y:BX},(st++[BX.acc 0])[k]?=some y->(∀ g,y≠.acc g)->st[k]?=some y:=by grind
 have m:Moves D w ow μ st D w ow μ (st++[.acc 0]):=
  ⟨λ_ _ d=>d,Keeps.refl _ _,λk _ _ e=>⟨rfl,_,H e⟩,λk _ _ _ e=>⟨rfl,_,H e⟩,λk _ e _=>⟨rfl,_,H e,rfl⟩,λk _ _ _ e=>⟨_,_,H e,Nat.le_refl _,λ_=>⟨rfl,ArrKeep.refl _ _ _ _ _⟩⟩,λk g0 e=>⟨_,H e,Nat.le_refl _,λ_ b J=>⟨rfl,J,λ_ d=>d⟩⟩⟩
 have I:∀ k,k<Γ.np->∃ b,(st++[BX.acc 0])[k]?=some b/\b.kind=Γ.K0 k:=λk Z=>by obtain ⟨s,hs,h1⟩:=h.par k Z;grind
 refine ⟨⟨λk T s e=>?_,λk K E es e=>?_,λk b e=>?_,λb k J=>⟨(h.owlt b k J).1,by have:=(h.owlt b k J).2;simp;omega⟩,h.dlt,h.os,h.tape,h.output,h.hs,h.old,h.dom0,h.domN,h.owN,by grind,h.mu0,I,λb k y J e M o d=>?_,h.keep0.trans m.keeps h.dom0,h.arr0_moves m I⟩,m⟩
 ·obtain ⟨c,O,q1,q2,q3,q4,q5⟩:=h.box k T s (z e (by simp));exact ⟨c,O,q1,q2,q3,q4,q5.mono m⟩
 ·exact h.map k K E es (z e (by simp))
 ·cases b with
  | acc g=>trivial
  | _=>exact (h.obj k _ (z e (by simp))).mono m.dom m.keeps (λ_=>rfl) (λ_ o=>⟨rfl,o,λ_ d=>d⟩)
 ·exact h.lone b k y J (z e M) M o d
theorem WRel.accBump (h:WRel Γ D ow μ st w) {k g:Nat} (O:st[k]?=some (.acc g)):WRel Γ D ow μ (st.set k (.acc (g+1))) w/\Moves D w ow μ st D w ow μ (st.set k (.acc (g+1))):=by
 have aa:=(A5.1 O).1;have ne:∀ {j:Nat}{y:BX},st[j]?=some y->j≠k->(st.set k (BX.acc (g+1)))[j]?=some y:=λe I=>by grind
 have J:(st.set k (BX.acc (g+1)))[k]?=some (.acc (g+1)):=by grind
 have z:∀ {j:Nat}{y:BX},(st.set k (BX.acc (g+1)))[j]?=some y->(∀ g,y≠.acc g)->st[j]?=some y:=by grind
 have m:Moves D w ow μ st D w ow μ (st.set k (.acc (g+1))):=by
  refine ⟨λ_ _ d=>d,Keeps.refl _ _,λj T x e=>⟨rfl,?_⟩,λj K E es e=>⟨rfl,?_⟩,λj b e hs=>⟨rfl,b,?_,rfl⟩,λj E g' xs e=>?_,λj g' e=>?_⟩
  ·grind
  ·grind
  ·by_cases I:j=k
   ·subst I;rw [O] at e;cases e;exact absurd rfl hs
   ·exact ne e I
  ·by_cases I:j=k
   ·grind
   ·exact ⟨g',xs,ne e I,Nat.le_refl _,λ_=>⟨rfl,ArrKeep.refl _ _ _ _ _⟩⟩
  grind
 have H:∀ j,j<Γ.np->∃ b,(st.set k (BX.acc (g+1)))[j]?=some b/\b.kind=Γ.K0 j:=by
  intro j I;obtain ⟨x,hx,p1⟩:=h.par j I;by_cases M:j=k
  ·subst M;rw [O] at hx;cases hx;exact ⟨_,J,p1⟩
  grind
 refine ⟨⟨λj T s e=>?_,λj K E es e=>?_,λj b e=>?_,λb j Z=>by simpa using h.owlt b j Z,h.dlt,h.os,h.tape,h.output,h.hs,h.old,h.dom0,h.domN,h.owN,by grind,h.mu0,H,λb j y Z e hy o d=>h.lone b j y Z (z e hy) hy o d,h.keep0.trans m.keeps h.dom0,h.arr0_moves m H⟩,m⟩
 ·obtain ⟨c,T1,q1,q2,q3,q4,q5⟩:=h.box j T s (z e (by simp));exact ⟨c,T1,q1,q2,q3,q4,q5.mono m⟩
 ·exact h.map j K E es (z e (by simp))
 ·cases b with
  | acc g=>trivial
  | _=>exact (h.obj j _ (z e (by simp))).mono m.dom m.keeps (λ_=>rfl) (λ_ o=>⟨rfl,o,λ_ d=>d⟩)
theorem aic (O:WRel Γ D ow μ st w) {k:Nat}{st':List BX} (M:(k=st.length/\st'=st++[.acc 0])\/(∃ g,st[k]?=some (.acc g)/\st'=st.set k (.acc (g+1)))) (I:Nat) (J:st'[k]?=some (.acc I))
 {E:TypeId}{z:Value} (hz:z.cells.size=Γ.P.cellsOf E) {zs:List PV}{L:List Value}{n cap:Nat} (hn:n=zs.length) (Z:L.length=zs.length*Γ.P.cellsOf E) (h:zs.length<=cap) (H:cap<=maxLen)
 (hr:∀ (i:Nat) (x:PV),zs[i]?=some x->Rep Γ.P D w E x ((L.drop (i*Γ.P.cellsOf E)).take (Γ.P.cellsOf E))):
 OpRes Γ D ow μ st w (.ok (.value (.slice (some ⟨w.heap.size,0,none⟩) n cap)) (w.drew.alloc (.cells (L.toArray++Builtin.zeroCells z.cells (cap-n)) E))) (.acc k I E zs) st':=by
 subst hn
 refine aqz O M (w':=w.drew.alloc (.cells (L.toArray++Builtin.zeroCells z.cells (cap-zs.length)) E)) (gb:=w.heap.size) (Or.inl ⟨Nat.le_refl _,by simp⟩) (λb hb _=>aa6 w.drew _ b hb) (by simp) rfl rfl rfl
  (Keeps.of_heap λb o d=>aa6 w.drew _ b (O.dlt b o d)) Z (aas w.drew _) ?_ h H ?_ (λo _ d=>by have:=O.dlt _ _ d;omega) hr I J
 ·simp
 ·simp only [Array.size_append,List.size_toArray,size_zeroCells,hz,Z,<-Nat.add_mul,Nat.zero_add];congr 1;omega
theorem ap3 (hw:WRel Γ D ow μ st w) (T ty E:TypeId) {I:TypeInfo}{z:Value} (hT:Γ.P.underlying T=some (.slice E)) (hi:Γ.P.info? E=some I) (am:I.zero=some z) (ar:I.size=Γ.P.cellsOf E) (ax:z.cells.size=Γ.P.cellsOf E) (aC:0<Γ.P.cellsOf E)
 (aa:∀ n,n<=aae->n*I.bytes<=140737488355328) {k g:Nat}{xs ys:List PV} (hk:st[k]?=some (.arr E g xs)) {xv yv:Value} (hx:SRep Γ.P D w ow μ st (.arr k g E) xv)
 (ae:(ys=[]/\(yv=.slice none 0 0\/∃ b c',yv=.slice (some b) 0 c'))\/
  ∃ (b off cap:Nat) (L:List Value),yv=.slice (some ⟨b,off,none⟩) ys.length cap/\0<ys.length/\L.length=ys.length*Γ.P.cellsOf E/\(∀ (i:Nat) (x:PV),ys[i]?=some x->Rep Γ.P D w E x ((L.drop (i*Γ.P.cellsOf E)).take (Γ.P.cellsOf E)))/\
   (∀ j u,L[j]?=some u->w.cell? ((⟨b,off,none⟩:Addr).add j)=some u)) (hb:xs.length+ys.length<=aae):
 ∃ u w',(Builtin.append_ #[T,T] ty #[xv,yv]).run Γ.P w=.ok u w'/\OpRes Γ D ow μ st w (.ok (.value u) w') (.arr k (g+1) E) (st.set k (.arr E (g+1) (xs++ys))):=by
 have M:(xs++ys).length=xs.length+ys.length:=by simp
 have aH:xs.length+ys.length<=maxLen:=by grind [aae,maxLen]
 cases hx with
 | arrOld Z ao=>grind
 | @arrNil _ _ _ a Z=>
  rw [hk] at Z;cases Z
  simp only [A6,Aw,Nat.zero_add] at*
  rcases ae with ⟨rfl,hv⟩ | ⟨b,off,cap,L,rfl,ak,hL,af,H⟩
  ·obtain ⟨u0,u1,u2⟩:=hw.arrBump hk;refine ⟨.slice a 0 0,w,abi w T ty E I hT hi a 0 0 (by omega) yv hv (λ_=>⟨rfl,rfl⟩),?_⟩;exact ⟨_,_,_,_,_,Or.inl rfl,u1,u2,.arrNil u0⟩
  ·have ay:ys.length*I.bytes<=281474976710656:=by grind
   have fin:∀ o,ys.length<=o->o<=maxLen->OpRes Γ D ow μ st w (.ok (.value (.slice (some ⟨w.heap.size,0,none⟩) ys.length o)) (w.drew.alloc (.cells (L.toArray++Builtin.zeroCells z.cells (o - ys.length)) E))) (.arr k (g+1) E) (st.set k (.arr E (g+1) ys)):=by
    intro o al an;have ab:(L.toArray++Builtin.zeroCells z.cells (o - ys.length)).size=o*Γ.P.cellsOf E:=by simp only [Array.size_append,List.size_toArray,size_zeroCells,ax,hL,<-Nat.add_mul];congr 1;omega
    have ad:∀ (i:Nat) (x:PV),ys[i]?=some x->Rep Γ.P D w E x (((L.toArray++Builtin.zeroCells z.cells (o - ys.length)).toList.drop (i*Γ.P.cellsOf E)).take (Γ.P.cellsOf E)):=by intro i x hx;have h2:(i+1)*Γ.P.cellsOf E<=ys.length*Γ.P.cellsOf E:=Au _ (by grind);grind
    obtain ⟨u0,u1,u2⟩:=hw.growArr (gb:=w.heap.size) (xs':=ys) hk (w':=w.drew.alloc (.cells (L.toArray++Builtin.zeroCells z.cells (o - ys.length)) E)) (Or.inl ⟨Nat.le_refl _,by simp⟩) (λb hb _=>aa6 w.drew _ b hb) (by simp) rfl rfl rfl (aas w.drew _) (by grind) ad;refine ⟨_,_,_,_,_,Or.inl rfl,u1,u2,?_⟩;have:=SRep.arr (P:=Γ.P) (D:=D) (w:=w.drew.alloc (.cells (L.toArray++Builtin.zeroCells z.cells (o - ys.length)) E)) (ow:=upd ow w.heap.size (some k)) (μ:=upd μ k w.heap.size) (cap:=o) u0 al an (by rw [aah];exact aas w.drew _) (by rw [aah,aah]) ab.symm;grind [aah]
   cases a with
   | none=>have hr:=run_append_nil (P:=Γ.P) w T ty E I z hT hi am ⟨b,off,none⟩ ys.length cap L (by grind) H ak (by grind [aae]) ay;grind [grownCap_ge,grownCap_le_maxLen]
   | some a=>have hr:=run_append_grow (P:=Γ.P) w T ty E I z hT hi am a 0 0 [] (by simp) (λj u hj=>by simp at hj) ⟨b,off,none⟩ ys.length cap L (by grind) H (by omega) (by grind [aae]) (growslice_fits (by omega) (aa _ (by omega)));simp only [Nat.zero_add] at hr;grind [grownCap_ge,grownCap_le_maxLen]
 | @arr _ _ O _ aJ cur Z ah aj J au ab=>
  rw [hk] at Z;cases Z
  have aG:xs.length*Γ.P.cellsOf E<=cur.size/\∀ (i:Nat) (x:PV),xs[i]?=some x->Rep Γ.P D w E x ((cur.toList.drop (i*Γ.P.cellsOf E)).take (Γ.P.cellsOf E)):=by rcases hw.obj k _ hk with h0 | ⟨aE,q1,q2,q3,q4,q5⟩;all_goals grind
  rcases ae with ⟨rfl,hv⟩ | ⟨b,off,cap,L,rfl,ak,hL,af,H⟩
  ·obtain ⟨u0,u1,u2⟩:=hw.arrBump hk;refine ⟨_,w,abi w T ty E I hT hi _ _ _ ah yv hv (λh=>by cases h),?_⟩;rw [List.append_nil];exact ⟨_,_,_,_,_,Or.inl rfl,u1,u2,.arr u0 ah aj J au ab⟩
  ·have ap:(cur.toList.take (xs.length*Γ.P.cellsOf E)).length=xs.length*Γ.P.cellsOf E:=by simp;omega
   have aD:∀ (i:Nat) (x:PV),xs[i]?=some x->Rep Γ.P D w E x (((cur.toList.take (xs.length*Γ.P.cellsOf E)).drop (i*Γ.P.cellsOf E)).take (Γ.P.cellsOf E)):=by intro i x hi;have h2:(i+1)*Γ.P.cellsOf E<=xs.length*Γ.P.cellsOf E:=Au _ (by grind);grind [Nat.add_mul,List.drop_take,Nat.min_eq_left]
   have aF:=ah8 ap hL aD af;have aB:∀ j u,(cur.toList.take (xs.length*Γ.P.cellsOf E))[j]?=some u->w.cell? ((⟨μ k,0,none⟩:Addr).add j)=some u:=by intro j u hj;have ao:=(A5.1 hj).1;rw [ap] at ao;rw [List.getElem?_take_of_lt ao] at hj;rw [abo,Nat.zero_add];grind [World.cell?]
   by_cases ag:xs.length+ys.length<=O
   ·have ai:xs.length*I.size+L.length<=cur.size:=by rw [ar,hL,<-ab,<-Nat.add_mul];exact Au _ ag
    have hr:=run_append_room (P:=Γ.P) w T ty E I hT hi (μ k) xs.length O cur J ⟨b,off,none⟩ ys.length cap L (by grind) H (aku hL aC af) ag ai;refine ⟨_,_,hr,?_⟩;rw [ar] at ai ⊢;have av:(w.setRow (μ k) (cur.toList.take (xs.length*Γ.P.cellsOf E)++L++cur.toList.drop (xs.length*Γ.P.cellsOf E+L.length)).toArray).heap[μ k]?=some (.cells (cur.toList.take (xs.length*Γ.P.cellsOf E)++L++cur.toList.drop (xs.length*Γ.P.cellsOf E+L.length)).toArray E (0,0)):=setRow_heap w (μ k) cur _ E _ J;have aw:(cur.toList.take (xs.length*Γ.P.cellsOf E)++L++cur.toList.drop (xs.length*Γ.P.cellsOf E+L.length)).toArray.size=cur.size:=by simp;omega
    have ad:∀ (i:Nat) (x:PV),(xs++ys)[i]?=some x->Rep Γ.P D w E x (((cur.toList.take (xs.length*Γ.P.cellsOf E)++L++cur.toList.drop (xs.length*Γ.P.cellsOf E+L.length)).toArray.toList.drop (i*Γ.P.cellsOf E)).take (Γ.P.cellsOf E)):=by intro i x hx;have h2:(i+1)*Γ.P.cellsOf E<=(xs++ys).length*Γ.P.cellsOf E:=Au _ (by grind);rw [Nat.add_mul,M,Nat.add_mul] at h2;grind
    obtain ⟨u0,u1,u2⟩:=hw.growArr (gb:=μ k) (xs':=xs++ys) hk (Or.inr au) (λb' _ aA=>setRow_other w (μ k) b' _ aA) (by simp) rfl rfl rfl av (by rw [aw,M,<-ab];grind) ad;refine ⟨_,_,_,_,_,Or.inl rfl,u1,u2,?_⟩;rw [<-M];have:=SRep.arr (P:=Γ.P) (D:=D) (ow:=upd ow (μ k) (some k)) (μ:=upd μ k (μ k)) (cap:=O) u0 (by grind) aj (by rw [aah];exact av) (by rw [aah,aah]) (by grind);grind [aah]
   ·have hr:=run_append_grow (P:=Γ.P) w T ty E I z hT hi am ⟨μ k,0,none⟩ xs.length O _ (by grind) aB ⟨b,off,none⟩ ys.length cap L (by grind) H (by omega) (by grind [aae]) (growslice_fits (by omega) (aa _ hb));refine ⟨_,_,hr,?_⟩;rw [show (cur.toList.take (xs.length*Γ.P.cellsOf E)).toArray++L.toArray=(cur.toList.take (xs.length*Γ.P.cellsOf E)++L).toArray by simp];generalize aI:grownCap _ _ _ _=gc;have al:(xs++ys).length<=gc:=by grind [grownCap_ge]
    have an:gc<=maxLen:=by grind [grownCap_le_maxLen]
    rw [<-M];have az:(cur.toList.take (xs.length*Γ.P.cellsOf E)++L).length=(xs++ys).length*Γ.P.cellsOf E:=by grind
    have aq:((cur.toList.take (xs.length*Γ.P.cellsOf E)++L).toArray++Builtin.zeroCells z.cells (gc-(xs++ys).length)).size=gc*Γ.P.cellsOf E:=by simp only [Array.size_append,List.size_toArray,size_zeroCells,ax,az,<-Nat.add_mul];congr 1;omega
    have ad:∀ (i:Nat) (x:PV),(xs++ys)[i]?=some x->Rep Γ.P D w E x ((((cur.toList.take (xs.length*Γ.P.cellsOf E)++L).toArray++Builtin.zeroCells z.cells (gc-(xs++ys).length)).toList.drop (i*Γ.P.cellsOf E)).take (Γ.P.cellsOf E)):=by intro i x hx;have h2:(i+1)*Γ.P.cellsOf E<=(xs++ys).length*Γ.P.cellsOf E:=Au _ (by grind);grind
    obtain ⟨u0,u1,u2⟩:=hw.growArr (gb:=w.heap.size) (xs':=xs++ys) hk (w':=w.drew.alloc (.cells ((cur.toList.take (xs.length*Γ.P.cellsOf E)++L).toArray++Builtin.zeroCells z.cells (gc-(xs++ys).length)) E)) (Or.inl ⟨Nat.le_refl _,by simp⟩) (λb hb _=>aa6 w.drew _ b hb) (by simp) rfl rfl rfl (aas w.drew _) (by grind) ad;refine ⟨_,_,_,_,_,Or.inl rfl,u1,u2,?_⟩;have:=SRep.arr (P:=Γ.P) (D:=D) (w:=w.drew.alloc (.cells ((cur.toList.take (xs.length*Γ.P.cellsOf E)++L).toArray++Builtin.zeroCells z.cells (gc-(xs++ys).length)) E)) (ow:=upd ow w.heap.size (some k)) (μ:=upd μ k w.heap.size) (cap:=gc) u0 al an (by rw [aah];exact aas w.drew _) (by rw [aah,aah]) aq.symm;grind [aah]
theorem apx {T E:TypeId}{k g:Nat}{h:Int}{xs:List PV}{xv hv:Value}{ik:IntKind} (hw:WRel Γ D ow μ st w) (hx:SRep Γ.P D w ow μ st (.arr k g E) xv) (O:SRep Γ.P D w ow μ st (.int ik h) hv) (hT:Γ.P.underlying T=some (.slice E)) (o:st[k]?=some (.arr E g xs)) (Z:Γ.P.cellsOf E≠0) (h0:0<=h) (h1:h<=xs.length):
 ∃ u,(Instr.sliceAt T xv none (some hv) none).run Γ.P w=.ok u w/\OpRes Γ D ow μ st w (.ok (.value u) w) (.arr k (g+1) E) (st.set k (.arr E (g+1) (xs.take h.toNat))):=by
 cases O
 obtain ⟨ad,hi,J⟩:=aav Z
 cases hx with
 | arrOld I hg=>grind
 | @arrNil _ _ _ a I=>
  rw [o] at I;cases I
  have e0:h=0:=by grind
  subst e0
  have H:=adm (Γ:=Γ) (w:=w) true 0 0 none (some (.int ik 0)) 0 0 (Or.inl ⟨rfl,rfl⟩) (Or.inr ⟨_,rfl⟩) (by omega) (by omega) (by omega) (Nat.le_refl _)
  obtain ⟨u0,u1,u2⟩:=hw.arrBump o
  refine ⟨.slice a 0 0,?_,_,_,_,_,_,Or.inl rfl,u1,u2,.arrNil u0⟩
  simp only [Instr.sliceAt,Sem.run_bind,run_underlying hT,Result.andThen_ok,Instr.slice,H,aau hi J,Sem.run_pure]
  rfl
 | @arr _ _ cap _ _ cur I hl M z aa hs=>
  rw [o] at I;cases I
  have H:=adm (Γ:=Γ) (w:=w) true xs.length cap none (some (.int ik h)) 0 h (Or.inl ⟨rfl,rfl⟩) (Or.inr ⟨_,rfl⟩) (by omega) h0 h1 hl
  obtain ⟨u0,u1,u2⟩:=hw.arrCut (n:=h.toNat) o
  have ab:(xs.take h.toNat).length=h.toNat:=by grind
  refine ⟨.slice (some ⟨μ k,0,none⟩) h.toNat cap,?_,_,_,_,_,_,Or.inl rfl,u1,u2,?_⟩
  ·simp only [Instr.sliceAt,Sem.run_bind,run_underlying hT,Result.andThen_ok,Instr.slice,H,aau hi J,Sem.run_pure,Option.map_some,abo,Int.toNat_zero,Nat.zero_mul,Nat.add_zero,Nat.sub_zero];grind
  ·have:=SRep.arr (P:=Γ.P) (D:=D) (w:=w) (ow:=ow) (μ:=μ) (cap:=cap) u0 (by omega) M z aa hs;grind
theorem WRel.arrNew (h:WRel Γ D ow μ st w) (E:TypeId):WRel Γ D ow μ (st++[.arr E 0 []]) w/\Moves D w ow μ st D w ow μ (st++[.arr E 0 []]):=by
 have aa:∀ {k:Nat}{y:BX},st[k]?=some y->k<st.length:=λe=>(A5.1 e).1;have H:∀ {k:Nat}{y:BX},st[k]?=some y->(st++[BX.arr E 0 []])[k]?=some y:=λ{k y} e=>by grind
 have z:∀ {k:Nat}{y:BX},(st++[BX.arr E 0 []])[k]?=some y->y≠.arr E 0 []->st[k]?=some y:=by grind
 have m:Moves D w ow μ st D w ow μ (st++[.arr E 0 []]):=
  ⟨λ_ _ d=>d,Keeps.refl _ _,λk _ _ e=>⟨rfl,_,H e⟩,λk _ _ _ e=>⟨rfl,_,H e⟩,λk _ e _=>⟨rfl,_,H e,rfl⟩,λk _ _ _ e=>⟨_,_,H e,Nat.le_refl _,λ_=>⟨rfl,ArrKeep.refl _ _ _ _ _⟩⟩,λk g0 e=>⟨_,H e,Nat.le_refl _,λ_ b J=>⟨rfl,J,λ_ d=>d⟩⟩⟩
 have I:∀ k,k<Γ.np->∃ b,(st++[BX.arr E 0 []])[k]?=some b/\b.kind=Γ.K0 k:=λk hk=>by obtain ⟨s,hs,h1⟩:=h.par k hk;grind
 refine ⟨⟨λk T s e=>?_,λk K E es e=>?_,λk b e=>?_,λb k J=>⟨(h.owlt b k J).1,by have:=(h.owlt b k J).2;simp;omega⟩,h.dlt,h.os,h.tape,h.output,h.hs,h.old,h.dom0,h.domN,h.owN,by grind,h.mu0,I,λb k y J e hy o d=>?_,h.keep0.trans m.keeps h.dom0,h.arr0_moves m I⟩,m⟩
 ·obtain ⟨c,Z,q1,q2,q3,q4,q5⟩:=h.box k T s (z e (by simp));exact ⟨c,Z,q1,q2,q3,q4,q5.mono m⟩
 ·exact h.map k K E es (z e (by simp))
 ·by_cases O:b=.arr E 0 []
  ·subst O;exact Or.inl rfl
  ·exact (h.obj k _ (z e O)).mono m.dom m.keeps (λ_=>rfl) (λ_ o=>⟨rfl,o,λ_ d=>d⟩)
 ·have M:=(h.owlt b k J).2;rw [A3 M] at e;exact h.lone b k y J e hy o d
theorem bcn (hw:WRel Γ D ow μ st w) {E:TypeId} (ag:0<Γ.P.cellsOf E) {y:SV}{yv:Value}{ys:List PV} (hy:SRep Γ.P D w ow μ st y yv) (O:bbe st y=some ys) (M:a2n Γ.P E y=true):(ys=[]/\(yv=.slice none 0 0\/∃ b Z,yv=.slice (some b) 0 Z))\/
 ∃ (b off cap:Nat) (L:List Value),yv=.slice (some ⟨b,off,none⟩) ys.length cap/\0<ys.length/\L.length=ys.length*Γ.P.cellsOf E/\(∀ (i:Nat) (x:PV),ys[i]?=some x->Rep Γ.P D w E x ((L.drop (i*Γ.P.cellsOf E)).take (Γ.P.cellsOf E)))/\
  (∀ j u,L[j]?=some u->w.cell? ((⟨b,off,none⟩:Addr).add j)=some u):=by
 have plain:∀ (z:SV),SRep Γ.P D w ow μ st z yv->ame z=some ys->al9 Γ.P E z=true->(ys=[]/\(yv=.slice none 0 0\/∃ b Z,yv=.slice (some b) 0 Z))\/
  ∃ (b off cap:Nat) (L:List Value),yv=.slice (some ⟨b,off,none⟩) ys.length cap/\0<ys.length/\L.length=ys.length*Γ.P.cellsOf E/\(∀ (i:Nat) (x:PV),ys[i]?=some x->Rep Γ.P D w E x ((L.drop (i*Γ.P.cellsOf E)).take (Γ.P.cellsOf E)))/\
   (∀ j u,L[j]?=some u->w.cell? ((⟨b,off,none⟩:Addr).add j)=some u):=by
  intro z hz O M
  have ad:=alt hz O M
  cases ad with
  | @nil a c af=>
   cases a with
   | none=>grind
   | some a=>grind
  | @mk b off cap _ L ae hL J o=>
   cases ys with
   | nil=>grind
   | cons q r=>exact Or.inr ⟨b,off,cap,L,rfl,by simp,hL,J,λj u hj=>by rw [abo];exact (o j u hj).2⟩
 cases y with
 | arr k g E'=>
  have:=Ae (show Nat.beq E E'=true from M)
  subst this
  have hk:=abw (show aee st k g E=some ys from O)
  cases hy with
  | arrOld H h2 _=>grind
  | @arrNil _ _ _ a H=>
   rw [hk] at H;cases H
   cases a with
   | none=>grind
   | some a=>grind
  | @arr _ _ cap _ _ cur H h2 h3 h4 h5 h6=>
   rw [hk] at H;cases H
   cases ys with
   | nil=>grind
   | cons q r=>
    rcases hw.obj k _ hk with h | ⟨cur',a1,a2,a3,a4,a5⟩
    ·cases h
    ·rw [h4] at a1;cases a1;have I:(cur.toList.take ((q::r).length*Γ.P.cellsOf E)).length=(q::r).length*Γ.P.cellsOf E:=by grind
     refine Or.inr ⟨μ k,0,cap,cur.toList.take ((q::r).length*Γ.P.cellsOf E),rfl,by simp,I,λi x hi=>?_,λj u hj=>?_⟩
     ·have aa:=(A5.1 hi).1;have hm:i*Γ.P.cellsOf E+Γ.P.cellsOf E<=(q::r).length*Γ.P.cellsOf E:=by rw [<-Nat.succ_mul];exact Au _ aa
      grind [List.drop_take,Nat.min_eq_left]
     ·have ab:j<(q::r).length*Γ.P.cellsOf E:=by grind
      rw [List.getElem?_take_of_lt ab] at hj;rw [abo,Nat.zero_add];grind [World.cell?]
 | _=>exact plain _ hy O M
theorem al7 (hw:WRel Γ D ow μ st w) (T ty:TypeId) (x y:SV) (xv yv:Value) (v:SV) (st':List BX) (hx:SRep Γ.P D w ow μ st x xv) (hy:SRep Γ.P D w ow μ st y yv) (h:acn Γ.P st T x y=.upd true v st'):
 ∃ u w',(Builtin.append_ #[T,T] ty #[xv,yv]).run Γ.P w=.ok u w'/\OpRes Γ D ow μ st w (.ok (.value u) w') v st':=by
 unfold acn at h
 split at h
 ·rename_i E ys hT hl;cases hc:(a2n Γ.P E y&&Nat.ble (Γ.P.bytesOf E) 512&&!(Nat.beq (Γ.P.bytesOf E) 0)&&!(Nat.beq (Γ.P.cellsOf E) 0)&&ab3 Γ.P E) with
  | false=>grind
  | true=>
   rw [hc] at h;simp only [Af] at h;simp only [Aj,Bool.not_eq_true'] at hc;obtain ⟨⟨⟨⟨c1,c2⟩,c3⟩,c4⟩,c5⟩:=hc;have ar:0<Γ.P.cellsOf E:=by rcases Nat.eq_zero_or_pos (Γ.P.cellsOf E) with h0 | h0;all_goals simp_all
   have a1:Γ.P.bytesOf E<=512:=Aq c2;obtain ⟨M,z,hi,af,aA,aj,a6,a8,a7⟩:=abl (Γ:=Γ) (D:=D) (ow:=ow) (μ:=μ) (st:=st) (w:=w) c5;have a4:M.bytes=Γ.P.bytesOf E:=by simp [Program.bytesOf,hi]
   have aa:=bcn hw ar hy hl c1;have Z:∀ n,n<=aae->n*M.bytes<=140737488355328:=by intro n hn;have h1:n*M.bytes<=aae*512:=Nat.mul_le_mul hn (by grind);grind [aae]
   split at h
   ·simp only [Ac.upd.injEq,A4] at h;obtain ⟨hb,rfl,rfl⟩:=h;cases hx;rcases aa with ⟨rfl,hv⟩ | ⟨b,off,cap,L,rfl,ai,hL,O,I⟩
    ·refine ⟨_,w,abi w T ty E M hT hi none 0 0 (by omega) yv hv (λ_=>⟨rfl,rfl⟩),?_⟩;obtain ⟨u1,u2⟩:=hw.accNil;exact ⟨_,_,_,_,_,Or.inl rfl,u1,u2,.acc (.nil λ_=>rfl) (by grind) (Nat.le_refl _) (λ_=>Or.inl ⟨_,rfl⟩)⟩
    ·have av:ys.length*M.bytes<=281474976710656:=by grind
     have hr:=run_append_nil (P:=Γ.P) w T ty E M z hT hi af ⟨b,off,none⟩ ys.length cap L (by grind) I ai (by grind [aae]) av;refine ⟨_,_,hr,aic hw (Or.inl ⟨rfl,rfl⟩) 0 (by grind) aj rfl hL (grownCap_ge _ _ _ _) (grownCap_le_maxLen _ _ _ _ (by grind [aae,maxLen])) O⟩
   ·rename_i k g E' xs;cases hg:(Nat.beq E E'&&anh st k g) with
    | false=>grind
    | true=>
     rw [hg] at h;simp only [Af,Ac.upd.injEq,A4] at h;obtain ⟨hb,rfl,rfl⟩:=h;simp only [Aj] at hg;have:=Ae hg.1;subst this;have aE:=hg.2;cases hx with
     | @acc _ _ g0 _ _ _ ab hk a5 aJ=>
      simp only [anh,hk] at aE;have:=Ae aE;subst this;have aN:=(A5.1 hk).1;have am:(st.set k (BX.acc (g+1)))[k]?=some (.acc (g+1)):=by grind
      have ap:xs.length+ys.length<=maxLen:=by grind [aae,maxLen]
      have own:=aJ rfl;rcases aa with ⟨rfl,hv⟩ | ⟨b,off,cap,L,rfl,ai,hL,O,I⟩
      ·obtain ⟨u1,u2⟩:=hw.accBump hk;have fin:OpRes Γ D ow μ st w (.ok (.value xv) w) (.acc k (g+1) E (xs++[])) (st.set k (.acc (g+1))):=by
        rw [List.append_nil];exact ⟨_,_,_,_,_,Or.inl rfl,u1,u2,.acc ab am (Nat.le_refl _) (λ_=>own)⟩
       refine ⟨xv,w,?_,fin⟩;rcases own with ⟨a,rfl⟩ | ⟨gb,off,cap,cur,rfl,_,al,_⟩
       ·cases a with
        | none=>exact abi w T ty E M hT hi none 0 0 (by omega) yv hv (λ_=>⟨rfl,rfl⟩)
        | some a=>grind [abi]
       grind [abi]
      ·have ah:(xs++ys).length=xs.length+ys.length:=by simp
       rcases own with ⟨a,rfl⟩ | ⟨gb,H,ad,cur,rfl,ae,al,aH,aL,aP,ay⟩
       ·have aR:xs=[]:=by
         generalize aD:Value.slice a 0 0=vv at ab;cases ab with
         | nil=>rfl
         | mk=>grind
        subst aR;simp only [A6,Aw,Nat.zero_add] at*;have av:ys.length*M.bytes<=281474976710656:=by grind
        cases a with
        | none=>have hr:=run_append_nil (P:=Γ.P) w T ty E M z hT hi af ⟨b,off,none⟩ ys.length cap L (by grind) I ai (by grind [aae]) av;exact ⟨_,_,hr,aic hw (Or.inr ⟨g,hk,rfl⟩) (g+1) am aj rfl hL (grownCap_ge _ _ _ _) (grownCap_le_maxLen _ _ _ _ ap) O⟩
        | some a=>have hr:=run_append_grow (P:=Γ.P) w T ty E M z hT hi af a 0 0 [] (by simp) (λj u hj=>by simp at hj) ⟨b,off,none⟩ ys.length cap L (by grind) I (by omega) (by grind [aae]) (growslice_fits (by omega) (Z _ (by omega)));simp only [Nat.zero_add] at hr;refine ⟨_,_,hr,?_⟩;rw [show (#[]:Array Value)++L.toArray=L.toArray by simp];exact aic hw (Or.inr ⟨g,hk,rfl⟩) (g+1) am aj rfl hL (by grind [grownCap_ge]) (grownCap_le_maxLen _ _ _ _ ap) O
       ·obtain ⟨J,ak,aC,az⟩:∃ J:List Value,J.length=xs.length*Γ.P.cellsOf E/\(∀ (i:Nat) (x:PV),xs[i]?=some x->Rep Γ.P D w E x ((J.drop (i*Γ.P.cellsOf E)).take (Γ.P.cellsOf E)))/\Held D w gb H J:=by
         generalize aD:Value.slice (some ⟨gb,H,none⟩) xs.length ad=vv at ab;cases ab with
         | nil=>exact ⟨[],by simp,λi x hi=>by simp at hi,λj u hj=>by simp at hj⟩
         | mk h1 h2 h3 h4=>grind
        have ax:∀ j u,J[j]?=some u->w.cell? ((⟨gb,H,none⟩:Addr).add j)=some u:=λj u hj=>by rw [abo];exact (az j u hj).2
        have aS:H+J.length<=cur.size:=by rw [ak,aL];exact Nat.add_le_add_left (Au _ al) _
        have aQ:(cur.toList.drop H).take J.length=J:=by apply List.ext_getElem?;grind [List.getElem?_take_of_lt,List.getElem?_eq_getElem,abo,World.cell?,List.getElem?_eq_none]
        have ag:=ah8 ak hL aC O;have aq:(J++L).length=(xs++ys).length*Γ.P.cellsOf E:=by grind
        have a3:cur.toList.length=cur.size:=by simp
        by_cases ao:xs.length+ys.length<=ad
        ·have a2:H+J.length+L.length<=cur.size:=by
          have h1:(xs.length+ys.length)*Γ.P.cellsOf E<=ad*Γ.P.cellsOf E:=Au _ ao;all_goals grind
         have hr:=amu (P:=Γ.P) w T ty E M hT hi gb H xs.length ad cur ae ⟨b,off,none⟩ ys.length cap L (by all_goals grind) I (aku hL ar O) ao (by all_goals grind);refine ⟨_,_,hr,?_⟩;have aT:xs.length*Γ.P.cellsOf E=J.length:=ak.symm;rw [aA,aT];generalize an:(cur.toList.take (H+J.length)++L++cur.toList.drop (H+J.length+L.length)).toArray=new;have aO:new.toList=cur.toList.take (H+J.length)++L++cur.toList.drop (H+J.length+L.length):=by rw [<-an]
         have au:(w.setRow gb new).heap[gb]?=some (.cells new E (0,0)):=setRow_heap w gb cur _ E _ ae;have aI:∀ o,o<H+J.length->new.toList[o]?=cur.toList[o]?:=λo ho=>by rw [aO,As,A3 (by all_goals grind),List.getElem?_take_of_lt ho]
         have aB:Keeps D w (w.setRow gb new):=by
          refine ⟨λb' o d=>?_,λb' o d es c he=>?_⟩
          ·by_cases aw:b'=gb
           ·subst aw;have ho:o<H+J.length:=by
             all_goals grind
            have h9:=aI o ho;simp only [World.cell?,au,ae];all_goals grind
           all_goals grind [cell?_of_heap,setRow_other]
          all_goals grind [setRow_other]
         have aZ:new.size=cur.size:=by all_goals grind
         rw [<-ah];refine aqz hw (Or.inr ⟨g,hk,rfl⟩) (gb:=gb) (off:=H) (L:=J++L) (Or.inr aP) (λb' _ aw=>setRow_other w gb b' _ aw) (by simp) rfl rfl rfl aB aq au ?_ (by all_goals grind) aH (by all_goals grind) (λo ho=>ay o ?_) ag (g+1) am;all_goals grind
        ·have hr:=run_append_grow (P:=Γ.P) w T ty E M z hT hi af ⟨gb,H,none⟩ xs.length ad J (by grind) ax ⟨b,off,none⟩ ys.length cap L (by grind) I (by omega) (by grind [aae]) (growslice_fits (by omega) (Z _ hb));refine ⟨_,_,hr,?_⟩;rw [show J.toArray++L.toArray=(J++L).toArray by simp];exact aic hw (Or.inr ⟨g,hk,rfl⟩) (g+1) am aj ah.symm aq (by grind [grownCap_ge]) (grownCap_le_maxLen _ _ _ _ ap) ag
   ·rename_i E';cases hg:Nat.beq E E' with
    | false=>grind
    | true=>
     rw [hg] at h;simp only [Af,Ac.upd.injEq,A4] at h;obtain ⟨hb,rfl,rfl⟩:=h;have:=Ae hg;subst this;cases hx with
     | @lit _ _ a ab=>
      obtain ⟨u1,u2⟩:=hw.arrNew E;have aF:(st++[BX.arr E 0 []])[st.length]?=some (.arr E 0 []):=by grind
      obtain ⟨u,w',r1,v1,w1,D1,aV,aX,r2,r3,r4,r5⟩:=ap3 u1 T ty E (ys:=ys) (yv:=yv) hT hi af aA aj ar Z aF (xv:=.slice (some a) 0 0) (.arrNil aF) aa (by simpa using hb);have e1:(st++[BX.arr E 0 []]).set st.length (.arr E (0+1) ([]++ys))=st++[.arr E 1 ys]:=by simp
      rw [e1] at r3 r4 r5;exact ⟨u,w',r1,v1,w1,D1,aV,aX,r2,r3,u2.trans r4,r5⟩
   ·rename_i E' x0 aW;generalize aU:x0::aW=xs at hx h;clear aU;cases hg:Nat.beq E E' with
    | false=>grind
    | true=>
     rw [hg] at h;simp only [Af,Ac.upd.injEq,A4] at h;obtain ⟨hb,rfl,rfl⟩:=h;have:=Ae hg;subst this;cases hx with
     | @lit _ _ a ab=>
      have ah:(xs++ys).length=xs.length+ys.length:=by simp
      rcases aa with ⟨rfl,hv⟩ | ⟨b,off,cap,L,rfl,ai,hL,O,I⟩
      ·refine ⟨_,w,abi w T ty E M hT hi _ _ _ (Nat.le_refl _) yv hv (λh=>by cases h),?_⟩;rw [List.append_nil];exact OpRes.still hw rfl (.slice ab)
      ·have aG:∃ (J:List Value),J.length=xs.length*Γ.P.cellsOf E/\(∀ (i:Nat) (x:PV),xs[i]?=some x->Rep Γ.P D w E x ((J.drop (i*Γ.P.cellsOf E)).take (Γ.P.cellsOf E)))/\∀ j u,J[j]?=some u->w.cell? (a.add j)=some u:=by
        generalize hn:xs.length=n at ab;generalize aD:Value.slice (some a) n n=vv at ab;cases ab with
        | nil=>exact ⟨[],by grind,λi x hi=>by simp at hi,λj u hj=>by simp at hj⟩
        | @mk b0 a0 aY _ J h1 h2 h3 h4=>cases aD;exact ⟨J,by rw [h2],h3,λj u hj=>by rw [abo];exact (h4 j u hj).2⟩
       obtain ⟨J,ak,aC,ax⟩:=aG;have ag:=ah8 ak hL aC O;have aq:(J++L).length=(xs++ys).length*Γ.P.cellsOf E:=by grind
       have ap:xs.length+ys.length<=maxLen:=by grind [aae,maxLen]
       have hr:=run_append_grow (P:=Γ.P) w T ty E M z hT hi af a xs.length xs.length J (by grind) ax ⟨b,off,none⟩ ys.length cap L (by grind) I (by omega) (by grind [aae]) (growslice_fits (by omega) (Z _ hb));refine ⟨_,_,hr,?_⟩;rw [show J.toArray++L.toArray=(J++L).toArray by simp];generalize al:grownCap _ _ _ _=gc;have aM:(xs++ys).length<=gc:=by grind [grownCap_ge]
       rw [<-ah];have g:Grew w (w.drew.alloc (.cells ((J++L).toArray++Builtin.zeroCells z.cells (gc-(xs++ys).length)) E)):=(Grew.drawn w (w.drawn+1)).trans (Grew.alloc w.drew _);refine OpRes.grew hw (D':=λb o=>D b o\/(b=w.heap.size/\o<(J++L).length)) rfl g (λb o d=>Or.inl d) (λb o d=>d.imp id (λd=>⟨by omega,by rw [d.1];simp⟩)) (λm=>.slice ?_);refine .mk aM aq (λi x hx=>(ag i x hx).mono m.dom m.keeps) (λj u hj=>?_);have aN:=(A5.1 hj).1;refine ⟨Or.inr ⟨rfl,by omega⟩,?_⟩;have an:(w.drew.alloc (.cells ((J++L).toArray++Builtin.zeroCells z.cells (gc-(xs++ys).length)) E)).heap[w.heap.size]?=some (.cells ((J++L).toArray++Builtin.zeroCells z.cells (gc-(xs++ys).length)) E (0,0)):=aas w.drew _;simp only [Nat.zero_add,World.cell?,an];grind
   ·rename_i k g E';cases hg:Nat.beq E E' with
    | false=>grind
    | true=>
     rw [hg] at h;simp only [Af] at h;have:=Ae hg;subst this;split at h;case h_2=>cases h
     rename_i xs aK;have hk:=abw aK;simp only [Ac.upd.injEq,A4] at h;obtain ⟨hb,rfl,rfl⟩:=h;exact ap3 hw T ty E hT hi af aA aj ar Z hk hx aa hb
   ·simp at h
 ·simp at h
theorem aoe (hw:WRel Γ D ow μ st w) (T:TypeId) (x y:SV) (xv yv:Value) (v:SV) (st':List BX) (hx:SRep Γ.P D w ow μ st x xv) (hy:SRep Γ.P D w ow μ st y yv) (h:adf Γ.P T x y st=.upd true v st'):
 ∃ u w',(Instr.makeSlice T xv yv).run Γ.P w=.ok u w'/\OpRes Γ D ow μ st w (.ok (.value u) w') v st':=by
 unfold adf at h
 split at h
 ·rename_i E c hT;cases M:(ab3 Γ.P E&&!(Nat.beq (Γ.P.cellsOf E) 0)&&Nat.ble (Γ.P.bytesOf E) 512) with
  | false=>grind
  | true=>
   rw [M] at h;simp only [Af,Ac.upd.injEq,A4] at h;obtain ⟨hb,rfl,rfl⟩:=h;simp only [Aj,Bool.not_eq_true'] at M;obtain ⟨⟨c1,c2⟩,c3⟩:=M;have aa:Γ.P.bytesOf E<=512:=Aq c3;obtain ⟨H,z,I,Z,O,ag,ad,af,ae⟩:=abl (Γ:=Γ) (D:=D) (ow:=ow) (μ:=μ) (st:=st) (w:=w) c1;have ab:H.bytes=Γ.P.bytesOf E:=by simp [Program.bytesOf,I]
   cases hx;cases hy;obtain ⟨n,rfl⟩:∃ n:Nat,c=(n:Int):=⟨c.toNat,by omega⟩;have hn:n<=68719476736:=by grind [aae]
   have J:(H.bytes:Int)*(n:Int)<=281474976710656:=by have h1:H.bytes*n<=512*68719476736:=Nat.mul_le_mul (by grind) hn;grind
   have hr:=run_make (P:=Γ.P) w T E H z hT I Z .i64 .i64 0 n (Int.le_refl _) (by omega) J (by omega);simp only [Int.toNat_zero,Ai] at hr;refine ⟨_,_,hr,aqz hw (Or.inl ⟨rfl,rfl⟩) (gb:=w.heap.size) (zs:=[]) (L:=[]) (Or.inl ⟨Nat.le_refl _,by simp⟩) (λb hb _=>aa6 w _ b hb) (by simp) rfl rfl rfl
    (Keeps.of_heap λb o d=>aa6 w _ b (hw.dlt b o d)) (by simp) (aas w _) (by simp) (by simp) (by unfold maxLen;omega) (by rw [size_madeCells,O,Nat.zero_add]) (λo _ d=>by have:=hw.dlt _ _ d;omega) (λi x I=>by simp at I) 0 (by grind)⟩
 ·cases h
end
end Go.Ab
