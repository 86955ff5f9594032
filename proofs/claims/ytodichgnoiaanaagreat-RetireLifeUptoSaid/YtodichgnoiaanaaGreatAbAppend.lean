/- append. -/
import Derived.Test.YtodichgnoiaanaaGreatAbWrite
set_option linter.unusedVariables false
set_option linter.unusedSimpArgs false
set_option linter.unnecessarySimpa false
namespace Go.Ab
open Go
section
variable {Γ:Ctx}{D:Dom}{ow:Own}{μ:Nat->Nat}{st:List BX}{w:World}
theorem WRel.setAcc (hw:WRel Γ D ow μ st w) {k gb:Nat}{st':List BX} (hst:(k=st.length/\st'=st++[.acc 0])∨(∃ g,st[k]?=some (.acc g)/\st'=st.set k (.acc (g+1)))) {w':World}{D':Dom}
 (hgb:(w.heap.size<=gb/\gb<w'.heap.size)∨ow gb=some k) (hother:∀ b,b<w.heap.size->b≠gb->w'.heap[b]?=w.heap[b]?) (hsz:w.heap.size<=w'.heap.size)
 (hos:w'.os=w.os) (htp:w'.tape=w.tape) (hou:w'.output=w.output) (hD:∀ b o,D b o->D' b o) (hN:∀ b o,D' b o->D b o∨b=gb) (hkp:Keeps D w w'):
 WRel Γ D' (upd ow gb (some k)) μ st' w'/\Moves D w ow μ st D' w' (upd ow gb (some k)) μ st':=by
 have isacc:∀ y,st[k]?=some y->∃ g,y=.acc g:=by
  intro y hy
  rcases hst with ⟨h1,_⟩ | ⟨g,h1,_⟩
  ·have:=(List.getElem?_eq_some_iff.1 hy).1;omega
  ·rw [h1] at hy;cases hy;exact ⟨g,rfl⟩
 have keep:∀ {j:Nat}{y:BX},st[j]?=some y->j≠k->st'[j]?=some y:=by
  intro j y e hj
  rcases hst with ⟨h1,h2⟩ | ⟨g,h1,h2⟩
  ·rw [h2,List.getElem?_append_left (List.getElem?_eq_some_iff.1 e).1];exact e
  ·rw [h2,List.getElem?_set_ne (by omega)];exact e
 have back:∀ {j:Nat}{y:BX},st'[j]?=some y->j≠k->st[j]?=some y:=by
  intro j y e hj
  rcases hst with ⟨h1,h2⟩ | ⟨g,h1,h2⟩
  ·rw [h2] at e
   have hlt:=(List.getElem?_eq_some_iff.1 e).1
   simp at hlt
   rwa [List.getElem?_append_left (by omega)] at e
  ·rw [h2,List.getElem?_set_ne (by omega)] at e;exact e
 have atk:∃ g1,st'[k]?=some (.acc g1)/\∀ g,st[k]?=some (.acc g)->g<g1:=by
  rcases hst with ⟨h1,h2⟩ | ⟨g,h1,h2⟩
  ·refine ⟨0,by rw [h2,h1,List.getElem?_append_right (Nat.le_refl _)];simp,fun g hg=>?_⟩
   have:=(List.getElem?_eq_some_iff.1 hg).1;omega
  ·refine ⟨g+1,by rw [h2,List.getElem?_set_self (List.getElem?_eq_some_iff.1 h1).1],fun g' hg=>?_⟩
   rw [h1] at hg;cases hg;omega
 have len:st.length<=st'.length/\k<st'.length:=by
  rcases hst with ⟨h1,h2⟩ | ⟨g,h1,h2⟩
  ·rw [h2];simp;omega
  ·rw [h2];simp;exact (List.getElem?_eq_some_iff.1 h1).1
 have notgb:∀ {j b:Nat},ow b=some j->j≠k->b≠gb:=by
  intro j b ob hj e
  subst e
  rcases hgb with h | h
  ·have:=(hw.owlt b j ob).1;omega
  ·rw [ob] at h;cases h;exact hj rfl
 have gbB:Γ.B<=gb∨ow gb=some k:=hgb.imp (fun h=>by have:=hw.hs;omega) id
 have gblt:gb<w'.heap.size:=by
  rcases hgb with h | h
  ·exact h.2
  ·have:=(hw.owlt gb k h).1;omega
 have m:Moves D w ow μ st D' w' (upd ow gb (some k)) μ st':=by
  refine ⟨hD,hkp,fun j T x e=>⟨rfl,?_⟩,fun j K E es e=>⟨rfl,?_⟩,fun j b e hs=>⟨rfl,b,?_,rfl⟩,fun j E g xs e=>?_,fun j g e=>?_⟩
  ·have hj:j≠k:=fun hj=>by subst hj;obtain ⟨g,hg⟩:=isacc _ e;cases hg
   exact ⟨_,keep e hj⟩
  ·have hj:j≠k:=fun hj=>by subst hj;obtain ⟨g,hg⟩:=isacc _ e;cases hg
   exact ⟨_,keep e hj⟩
  ·have hj:j≠k:=fun hj=>by subst hj;obtain ⟨g,hg⟩:=isacc _ e;subst hg;exact hs rfl
   exact keep e hj
  ·have hj:j≠k:=fun hj=>by subst hj;obtain ⟨g,hg⟩:=isacc _ e;cases hg
   refine ⟨g,xs,keep e hj,Nat.le_refl _,fun _=>⟨rfl,fun cur hc hoj=>?_⟩⟩
   have hb:=notgb hoj hj
   exact ⟨rfl,by rw [aal _ _ hb];exact hoj,cur,(hother _ (hw.owlt _ j hoj).1 hb).trans hc,rfl⟩
  ·by_cases hj:j=k
   ·subst hj
    obtain ⟨g1,h1,h2⟩:=atk
    have:=h2 g e
    exact ⟨g1,h1,by omega,fun h=>by omega⟩
   ·refine ⟨g,keep e hj,Nat.le_refl _,fun _ b ob=>?_⟩
    have hb:=notgb ob hj
    refine ⟨hother b (hw.owlt b j ob).1 hb,by rw [aal _ _ hb];exact ob,fun o d=>(hN b o d).resolve_right hb⟩
 have par':∀ j,j<Γ.np->∃ b,st'[j]?=some b/\b.kind=Γ.K0 j:=by
  intro j hj
  obtain ⟨x,hx,p1⟩:=hw.par j hj
  by_cases hjk:j=k
  ·subst hjk
   obtain ⟨g,hg⟩:=isacc _ hx;subst hg
   obtain ⟨g1,h1,_⟩:=atk
   exact ⟨_,h1,p1⟩
  ·exact ⟨x,keep hx hjk,p1⟩
 refine ⟨⟨fun j T x e=>?_,fun j K E es e=>?_,fun j x e=>?_,fun b j ob=>?_,fun b o d=>?_,hos.trans hw.os,htp.trans hw.tape,hou.trans hw.output,Nat.le_trans hw.hs hsz,fun b hb hn=>?_,fun b o d=>hD b o (hw.dom0 b o d),fun b o d=>?_,fun b j ob hb=>?_,Nat.le_trans hw.np len.1,hw.mu0,par',fun b j y ob e hy o d=>?_,hw.keep0.trans m.keeps hw.dom0,hw.arr0_moves m par'⟩,m⟩
 ·have hj:j≠k:=fun hj=>by subst hj;obtain ⟨g1,h1,_⟩:=atk;rw [h1] at e;cases e
  obtain ⟨c,T1,q1,q2,q3,q4,q5⟩:=hw.box j T x (back e hj)
  have hb:=notgb q3 hj
  exact BoxRep.mono ⟨c,T1,q1,q2,q3,q4,q5⟩ m rfl (hother _ (hw.owlt _ _ q3).1 hb) (by rw [aal _ _ hb];exact q3) (fun o d=>q4 o ((hN _ o d).resolve_right hb))
 ·have hj:j≠k:=fun hj=>by subst hj;obtain ⟨g1,h1,_⟩:=atk;rw [h1] at e;cases e
  obtain ⟨ents,clock,kc,vc,q1,q2,q3⟩:=hw.map j K E es (back e hj)
  have hb:=notgb q2 hj
  exact OMapRep.mono ⟨ents,clock,kc,vc,q1,q2,q3⟩ m.dom m.keeps rfl (hother _ (hw.owlt _ _ q2).1 hb) (by rw [aal _ _ hb];exact q2) (fun o d=>q3.1 o ((hN _ o d).resolve_right hb))
 ·by_cases hj:j=k
  ·subst hj;obtain ⟨g1,h1,_⟩:=atk;rw [h1] at e;cases e;trivial
  ·refine (hw.obj j x (back e hj)).mono m.dom m.keeps (fun _=>rfl) (fun c oc=>?_)
   have hb:=notgb oc hj
   exact ⟨hother _ (hw.owlt _ _ oc).1 hb,by rw [aal _ _ hb];exact oc,fun o d=>(hN _ o d).resolve_right hb⟩
 ·by_cases hb:b=gb
  ·rw [hb,aae] at ob;cases ob;rw [hb];exact ⟨gblt,len.2⟩
  ·rw [aal _ _ hb] at ob
   have:=hw.owlt b j ob
   exact ⟨by omega,by omega⟩
 ·rcases hN b o d with d | d
  ·have:=hw.dlt b o d;omega
  ·rw [d];exact gblt
 ·have hne:b≠gb:=fun hb2=>by
   subst hb2
   rcases gbB with h | h
   ·omega
   ·have:=hw.owN b k h hb;rw [hn] at this;cases this
  exact (hother b (by have:=hw.hs;omega) hne).trans (hw.old b hb hn)
 ·rcases hN b o d with d | d
  ·exact hw.domN b o d
  ·subst d
   rcases gbB with h | h
   ·exact Or.inr (Or.inl h)
   ·by_cases hb:b<Γ.B
    ·exact Or.inr (Or.inr (by rw [hw.owN b k h hb];simp))
    ·exact Or.inr (Or.inl (by omega))
 ·by_cases hne:b=gb
  ·subst hne
   rw [aae] at ob;cases ob
   rcases gbB with h | h
   ·omega
   ·exact hw.owN b k h hb
  ·rw [aal _ _ hne] at ob
   exact hw.owN b j ob hb
 ·by_cases hj:j=k
  ·subst hj;obtain ⟨g1,h1,_⟩:=atk;rw [h1] at e;cases e;exact hy _ rfl
  ·by_cases hb:b=gb
   ·rw [hb,aae] at ob;cases ob;exact hj rfl
   ·rw [aal _ _ hb] at ob
    exact hw.lone b j y ob (back e hj) hy o ((hN b o d).resolve_right hb)
theorem WRel.growArr (hw:WRel Γ D ow μ st w) {k g gb:Nat}{E0:TypeId}{xs xs':List PV} (hk:st[k]?=some (.arr E0 g xs)) {w':World}{cur':Array Value}
 (hgb:(w.heap.size<=gb/\gb<w'.heap.size)∨ow gb=some k) (hother:∀ b,b<w.heap.size->b≠gb->w'.heap[b]?=w.heap[b]?) (hsz:w.heap.size<=w'.heap.size)
 (hos:w'.os=w.os) (htp:w'.tape=w.tape) (hou:w'.output=w.output) (hh:w'.heap[gb]?=some (.cells cur' E0 (0,0))) (hcs:xs'.length*Γ.P.cellsOf E0<=cur'.size)
 (hr:∀ (i:Nat) (x:PV),xs'[i]?=some x->Rep Γ.P D w E0 x ((cur'.toList.drop (i*Γ.P.cellsOf E0)).take (Γ.P.cellsOf E0))):
 (st.set k (.arr E0 (g+1) xs'))[k]?=some (.arr E0 (g+1) xs')/\WRel Γ D (upd ow gb (some k)) (upd μ k gb) (st.set k (.arr E0 (g+1) xs')) w'/\Moves D w ow μ st D w' (upd ow gb (some k)) (upd μ k gb) (st.set k (.arr E0 (g+1) xs')):=by
 have hlt:=(List.getElem?_eq_some_iff.1 hk).1
 have hfree:∀ o,¬D gb o:=by
  intro o d
  rcases hgb with h | h
  ·have:=hw.dlt _ _ d;omega
  ·exact hw.lone gb k _ h hk (by simp) o d
 have hkp:Keeps D w w':=Keeps.of_heap fun b o d=>hother b (hw.dlt b o d) (fun e=>by subst e;exact hfree o d)
 have keep:∀ {j:Nat}{y:BX},st[j]?=some y->j≠k->(st.set k (.arr E0 (g+1) xs'))[j]?=some y:=fun e hj=>by rw [List.getElem?_set_ne (by omega)];exact e
 have back:∀ {j:Nat}{y:BX},(st.set k (.arr E0 (g+1) xs'))[j]?=some y->j≠k->st[j]?=some y:=fun e hj=>by rwa [List.getElem?_set_ne (by omega)] at e
 have same:(st.set k (.arr E0 (g+1) xs'))[k]?=some (.arr E0 (g+1) xs'):=by rw [List.getElem?_set_self hlt]
 have notgb:∀ {j b:Nat},ow b=some j->j≠k->b≠gb:=by
  intro j b ob hj e
  subst e
  rcases hgb with h | h
  ·have:=(hw.owlt b j ob).1;omega
  ·rw [ob] at h;cases h;exact hj rfl
 have gblt:gb<w'.heap.size:=by
  rcases hgb with h | h
  ·exact h.2
  ·have:=(hw.owlt gb k h).1;omega
 have mu:∀ {j:Nat},j≠k->upd μ k gb j=μ j:=fun hj=>aal _ _ hj
 have m:Moves D w ow μ st D w' (upd ow gb (some k)) (upd μ k gb) (st.set k (.arr E0 (g+1) xs')):=by
  refine ⟨fun _ _ d=>d,hkp,fun j T x e=>?_,fun j K E es e=>?_,fun j b e hs=>?_,fun j E g' ys e=>?_,fun j g' e=>?_⟩
  ·have hj:j≠k:=fun hj=>by subst hj;rw [hk] at e;cases e
   exact ⟨mu hj,_,keep e hj⟩
  ·have hj:j≠k:=fun hj=>by subst hj;rw [hk] at e;cases e
   exact ⟨mu hj,_,keep e hj⟩
  ·have hj:j≠k:=fun hj=>by subst hj;rw [hk] at e;cases e;exact hs rfl
   exact ⟨mu hj,b,keep e hj,rfl⟩
  ·by_cases hj:j=k
   ·subst hj;rw [hk] at e;cases e
    exact ⟨_,_,same,by omega,fun h=>by omega⟩
   ·refine ⟨g',ys,keep e hj,Nat.le_refl _,fun _=>⟨rfl,fun cur hc hoj=>?_⟩⟩
    have hb:=notgb hoj hj
    exact ⟨mu hj,by rw [aal _ _ hb];exact hoj,cur,(hother _ (hw.owlt _ j hoj).1 hb).trans hc,rfl⟩
  ·have hj:j≠k:=fun hj=>by subst hj;rw [hk] at e;cases e
   refine ⟨g',keep e hj,Nat.le_refl _,fun _ b ob=>?_⟩
   have hb:=notgb ob hj
   exact ⟨hother b (hw.owlt b j ob).1 hb,by rw [aal _ _ hb];exact ob,fun o d=>d⟩
 have par':∀ j,j<Γ.np->∃ b,(st.set k (.arr E0 (g+1) xs'))[j]?=some b/\b.kind=Γ.K0 j:=by
  intro j hj
  obtain ⟨x,hx,p1⟩:=hw.par j hj
  by_cases hjk:j=k
  ·subst hjk;rw [hk] at hx;cases hx;exact ⟨_,same,p1⟩
  ·exact ⟨x,keep hx hjk,p1⟩
 refine ⟨same,⟨fun j T x e=>?_,fun j K E es e=>?_,fun j x e=>?_,fun b j ob=>?_,fun b o d=>Nat.lt_of_lt_of_le (hw.dlt b o d) hsz,hos.trans hw.os,htp.trans hw.tape,hou.trans hw.output,Nat.le_trans hw.hs hsz,fun b hb hn=>?_,hw.dom0,hw.domN,fun b j ob hb=>?_,by simpa using hw.np,fun j hj hK=>?_,par',fun b j y ob e hy o d=>?_,hw.keep0.trans m.keeps hw.dom0,hw.arr0_moves m par'⟩,m⟩
 ·have hj:j≠k:=fun hj=>by subst hj;rw [same] at e;cases e
  obtain ⟨c,T1,q1,q2,q3,q4,q5⟩:=hw.box j T x (back e hj)
  have hb:=notgb q3 hj
  exact BoxRep.mono ⟨c,T1,q1,q2,q3,q4,q5⟩ m (mu hj) (hother _ (hw.owlt _ _ q3).1 hb) (by rw [aal _ _ hb];exact q3) q4
 ·have hj:j≠k:=fun hj=>by subst hj;rw [same] at e;cases e
  obtain ⟨ents,clock,kc,vc,q1,q2,q3⟩:=hw.map j K E es (back e hj)
  have hb:=notgb q2 hj
  exact OMapRep.mono ⟨ents,clock,kc,vc,q1,q2,q3⟩ m.dom m.keeps (mu hj) (hother _ (hw.owlt _ _ q2).1 hb) (by rw [aal _ _ hb];exact q2) q3.1
 ·by_cases hj:j=k
  ·subst hj;rw [same] at e;cases e
   exact Or.inr ⟨cur',by rw [aae];exact hh,by rw [aae,aae],by rw [aae];exact hfree,hcs,fun i x hx=>(hr i x hx).mono m.dom m.keeps⟩
  ·refine (hw.obj j x (back e hj)).mono m.dom m.keeps (fun _=>mu hj) (fun c oc=>?_)
   have hb:=notgb oc hj
   exact ⟨hother _ (hw.owlt _ _ oc).1 hb,by rw [aal _ _ hb];exact oc,fun o d=>d⟩
 ·by_cases hb:b=gb
  ·rw [hb,aae] at ob;cases ob;rw [hb];exact ⟨gblt,by simpa using hlt⟩
  ·rw [aal _ _ hb] at ob
   have:=hw.owlt b j ob
   exact ⟨by omega,by simpa using this.2⟩
 ·have hne:b≠gb:=fun hb2=>by
   subst hb2
   rcases hgb with h | h
   ·have:=hw.hs;omega
   ·have:=hw.owN b k h hb;rw [hn] at this;cases this
  exact (hother b (by have:=hw.hs;omega) hne).trans (hw.old b hb hn)
 ·by_cases hne:b=gb
  ·subst hne
   rw [aae] at ob;cases ob
   rcases hgb with h | h
   ·have:=hw.hs;omega
   ·exact hw.owN b k h hb
  ·rw [aal _ _ hne] at ob
   exact hw.owN b j ob hb
 ·by_cases hjk:j=k
  ·subst hjk
   obtain ⟨x,hx,p1⟩:=hw.par j hj
   rw [hk] at hx;cases hx
   exact absurd p1.symm (hK E0)
  ·rw [mu hjk];exact hw.mu0 j hj hK
 ·by_cases hj:j=k
  ·subst hj
   by_cases hb:b=gb
   ·subst hb;exact hfree o d
   ·rw [aal _ _ hb] at ob;exact hw.lone b j _ ob hk (by simp) o d
  ·by_cases hb:b=gb
   ·rw [hb,aae] at ob;cases ob;exact hj rfl
   ·rw [aal _ _ hb] at ob
    exact hw.lone b j y ob (back e hj) hy o d
theorem WRel.arrBump (hw:WRel Γ D ow μ st w) {k g:Nat}{E0:TypeId}{xs:List PV} (hk:st[k]?=some (.arr E0 g xs)):
 (st.set k (.arr E0 (g+1) xs))[k]?=some (.arr E0 (g+1) xs)/\WRel Γ D ow μ (st.set k (.arr E0 (g+1) xs)) w/\Moves D w ow μ st D w ow μ (st.set k (.arr E0 (g+1) xs)):=by
 have hlt:=(List.getElem?_eq_some_iff.1 hk).1
 have keep:∀ {j:Nat}{y:BX},st[j]?=some y->j≠k->(st.set k (.arr E0 (g+1) xs))[j]?=some y:=fun e hj=>by rw [List.getElem?_set_ne (by omega)];exact e
 have back:∀ {j:Nat}{y:BX},(st.set k (.arr E0 (g+1) xs))[j]?=some y->j≠k->st[j]?=some y:=fun e hj=>by rwa [List.getElem?_set_ne (by omega)] at e
 have same:(st.set k (.arr E0 (g+1) xs))[k]?=some (.arr E0 (g+1) xs):=by rw [List.getElem?_set_self hlt]
 have m:Moves D w ow μ st D w ow μ (st.set k (.arr E0 (g+1) xs)):=by
  refine ⟨fun _ _ d=>d,Keeps.refl _ _,fun j T x e=>?_,fun j K E es e=>?_,fun j b e hs=>?_,fun j E g' ys e=>?_,fun j g' e=>?_⟩
  ·have hj:j≠k:=fun hj=>by subst hj;rw [hk] at e;cases e
   exact ⟨rfl,_,keep e hj⟩
  ·have hj:j≠k:=fun hj=>by subst hj;rw [hk] at e;cases e
   exact ⟨rfl,_,keep e hj⟩
  ·have hj:j≠k:=fun hj=>by subst hj;rw [hk] at e;cases e;exact hs rfl
   exact ⟨rfl,b,keep e hj,rfl⟩
  ·by_cases hj:j=k
   ·subst hj;rw [hk] at e;cases e
    exact ⟨_,_,same,by omega,fun h=>by omega⟩
   ·exact ⟨g',ys,keep e hj,Nat.le_refl _,fun _=>⟨rfl,ArrKeep.refl _ _ _ _ _⟩⟩
  ·have hj:j≠k:=fun hj=>by subst hj;rw [hk] at e;cases e
   exact ⟨g',keep e hj,Nat.le_refl _,fun _ b ob=>⟨rfl,ob,fun _ d=>d⟩⟩
 have par':∀ j,j<Γ.np->∃ b,(st.set k (.arr E0 (g+1) xs))[j]?=some b/\b.kind=Γ.K0 j:=by
  intro j hj
  obtain ⟨x,hx,p1⟩:=hw.par j hj
  by_cases hjk:j=k
  ·subst hjk;rw [hk] at hx;cases hx;exact ⟨_,same,p1⟩
  ·exact ⟨x,keep hx hjk,p1⟩
 refine ⟨same,⟨fun j T s e=>?_,fun j K E es e=>?_,fun j b e=>?_,fun b j ob=>by simpa using hw.owlt b j ob,hw.dlt,hw.os,hw.tape,hw.output,hw.hs,hw.old,hw.dom0,hw.domN,hw.owN,by simpa using hw.np,hw.mu0,par',fun b j y ob e hy o d=>?_,hw.keep0.trans m.keeps hw.dom0,hw.arr0_moves m par'⟩,m⟩
 ·have hj:j≠k:=fun hj=>by subst hj;rw [same] at e;cases e
  obtain ⟨c,T1,q1,q2,q3,q4,q5⟩:=hw.box j T s (back e hj)
  exact ⟨c,T1,q1,q2,q3,q4,q5.mono m⟩
 ·have hj:j≠k:=fun hj=>by subst hj;rw [same] at e;cases e
  exact hw.map j K E es (back e hj)
 ·by_cases hj:j=k
  ·subst hj;rw [same] at e;cases e
   have h0:aux Γ.P D w ow μ j E0 xs:=hw.obj j _ hk
   exact h0
  ·exact (hw.obj j b (back e hj)).mono m.dom m.keeps (fun _=>rfl) (fun _ o=>⟨rfl,o,fun _ d=>d⟩)
 ·by_cases hj:j=k
  ·subst hj;exact hw.lone b j _ ob hk (by simp) o d
  ·exact hw.lone b j y ob (back e hj) hy o d
theorem ag0 {E:TypeId}{xs ys:List PV}{Lx Ly:List Value} (hx:Lx.length=xs.length*Γ.P.cellsOf E) (hy:Ly.length=ys.length*Γ.P.cellsOf E)
 (rx:∀ (i:Nat) (x:PV),xs[i]?=some x->Rep Γ.P D w E x ((Lx.drop (i*Γ.P.cellsOf E)).take (Γ.P.cellsOf E)))
 (ry:∀ (i:Nat) (x:PV),ys[i]?=some x->Rep Γ.P D w E x ((Ly.drop (i*Γ.P.cellsOf E)).take (Γ.P.cellsOf E))):
 ∀ (i:Nat) (x:PV),(xs++ys)[i]?=some x->Rep Γ.P D w E x (((Lx++Ly).drop (i*Γ.P.cellsOf E)).take (Γ.P.cellsOf E)):=by
 intro i x hi
 by_cases h:i<xs.length
 ·rw [List.getElem?_append_left h] at hi
  have:=rx i x hi
  have h2:(i+1)*Γ.P.cellsOf E<=xs.length*Γ.P.cellsOf E:=Nat.mul_le_mul_right _ (by omega)
  rw [Nat.add_mul] at h2
  rw [List.drop_append_of_le_length (by omega),List.take_append_of_le_length (by rw [List.length_drop];omega)]
  exact this
 ·rw [List.getElem?_append_right (by omega)] at hi
  have:=ry _ x hi
  have h2:xs.length*Γ.P.cellsOf E<=i*Γ.P.cellsOf E:=Nat.mul_le_mul_right _ (by omega)
  have e:i*Γ.P.cellsOf E=Lx.length+(i-xs.length)*Γ.P.cellsOf E:=by rw [Nat.sub_mul];omega
  rw [e,List.drop_append,List.drop_eq_nil_of_le (by omega),List.nil_append,Nat.add_sub_cancel_left]
  exact this
theorem ajj {E:TypeId}{ys:List PV}{Ly:List Value} (hy:Ly.length=ys.length*Γ.P.cellsOf E) (hne:0<Γ.P.cellsOf E)
 (ry:∀ (i:Nat) (x:PV),ys[i]?=some x->Rep Γ.P D w E x ((Ly.drop (i*Γ.P.cellsOf E)).take (Γ.P.cellsOf E))):∀ c,c∈Ly->c.oneCell'=true:=by
 intro c hc
 obtain ⟨j,hj,rfl⟩:=List.mem_iff_getElem.1 hc
 have h1:j / Γ.P.cellsOf E<ys.length:=by rw [Nat.div_lt_iff_lt_mul hne];omega
 refine (ry _ _ (List.getElem?_eq_getElem h1)).oneCell _ (List.mem_iff_getElem?.2 ⟨j%Γ.P.cellsOf E,?_⟩)
 rw [List.getElem?_take_of_lt (Nat.mod_lt _ hne),List.getElem?_drop]
 have:=Nat.div_add_mod j (Γ.P.cellsOf E)
 rw [Nat.mul_comm] at this
 rw [this,List.getElem?_eq_getElem hj]
theorem aox (hw:WRel Γ D ow μ st w) {k gb:Nat}{st':List BX} (hst:(k=st.length/\st'=st++[.acc 0])∨(∃ g,st[k]?=some (.acc g)/\st'=st.set k (.acc (g+1)))) {w':World}
 (hgb:(w.heap.size<=gb/\gb<w'.heap.size)∨ow gb=some k) (hother:∀ b,b<w.heap.size->b≠gb->w'.heap[b]?=w.heap[b]?) (hsz:w.heap.size<=w'.heap.size)
 (hos:w'.os=w.os) (htp:w'.tape=w.tape) (hou:w'.output=w.output) (hkp:Keeps D w w')
 {E:TypeId}{zs:List PV}{L:List Value}{cur:Array Value}{cap:Nat} (hL:L.length=zs.length*Γ.P.cellsOf E) (hheap:w'.heap[gb]?=some (.cells cur E (0,0))) (htake:cur.toList.take L.length=L) (hcap:zs.length<=cap) (hmax:cap<=maxLen) (hcs:cur.size=cap*Γ.P.cellsOf E)
 (hfree:∀ o,zs.length*Γ.P.cellsOf E<=o->¬D gb o)
 (hr:∀ (i:Nat) (x:PV),zs[i]?=some x->Rep Γ.P D w E x ((L.drop (i*Γ.P.cellsOf E)).take (Γ.P.cellsOf E))) (g1:Nat) (hg1:st'[k]?=some (.acc g1)):
 OpRes Γ D ow μ st w (.ok (.value (.slice (some ⟨gb,0,none⟩) zs.length cap)) w') (.acc k g1 E zs) st':=by
 obtain ⟨u1,u2⟩:=hw.setAcc hst (D':=fun b o=>D b o∨(b=gb/\o<L.length)) hgb hother hsz hos htp hou (fun b o d=>Or.inl d) (fun b o d=>d.imp id (fun h=>h.1)) hkp
 refine ⟨_,_,_,_,_,Or.inl rfl,u1,u2,.acc ?_ hg1 (Nat.le_refl _) (fun _=>Or.inr ⟨gb,cap,cur,rfl,hheap,hcap,hmax,hcs,aae _ _ _,fun o ho d=>?_⟩)⟩
 ·refine .mk hcap hL (fun i x hx=>(hr i x hx).mono u2.dom u2.keeps) (fun j v hj=>?_)
  have hlt:=(List.getElem?_eq_some_iff.1 hj).1
  refine ⟨Or.inr ⟨rfl,by omega⟩,?_⟩
  have:cur.toList[j]?=some v:=by
   rw [<-htake,List.getElem?_take_of_lt hlt] at hj;exact hj
  simp only [Nat.zero_add,World.cell?,hheap]
  simpa using this
 ·rcases d with d | d
  ·exact hfree o ho d
  ·omega
theorem abj {P:Program} (w:World) (t ty e:TypeId) (i:TypeInfo) (ht:P.underlying t=some (.slice e)) (hi:P.info? e=some i) (a:Option Addr) (n c:Nat) (hn:n<=c) (v:Value)
 (hv:v=.slice none 0 0∨∃ b c',v=.slice (some b) 0 c') (hnil:a=none->n=0/\c=0):(Builtin.append_ #[t,t] ty #[.slice a n c,v]).run P w=.ok (.slice a n c) w:=by
 have hf:∀ u,(Builtin.firstCells i.size 0 v).run P u=.ok #[] u:=by
  intro u
  rcases hv with rfl | ⟨b,c',rfl⟩
  ·simp [Builtin.firstCells]
  ·simp [Builtin.firstCells,loadCells,loadCellsFrom]
 have hl:∀ u,(Builtin.lenOf v).run P u=.ok 0 u:=by
  intro u
  rcases hv with rfl | ⟨b,c',rfl⟩<;>simp [Builtin.lenOf]
 cases a with
 | none=>
  obtain ⟨rfl,rfl⟩:=hnil rfl
  simp [Builtin.append_,run_underlying ht,sizeOf,typeInfo,hi,hl,hf]
 | some b=>simp [Builtin.append_,run_underlying ht,sizeOf,typeInfo,hi,hl,hf,hn,storeCells]
end
end Go.Ab
namespace Go.Ab
open Go
section
variable {Γ:Ctx}{D:Dom}{ow:Own}{μ:Nat->Nat}{st:List BX}{w:World}
theorem WRel.accNil (hw:WRel Γ D ow μ st w):WRel Γ D ow μ (st++[.acc 0]) w/\Moves D w ow μ st D w ow μ (st++[.acc 0]):=by
 have olt:∀ {k:Nat}{y:BX},st[k]?=some y->k<st.length:=fun e=>(List.getElem?_eq_some_iff.1 e).1
 have oap:∀ {k:Nat}{y:BX},st[k]?=some y->(st++[BX.acc 0])[k]?=some y:=fun {k y} e=>by rw [List.getElem?_append_left (olt e)];exact e
 have back:∀ {k:Nat}{y:BX},(st++[BX.acc 0])[k]?=some y->(∀ g,y≠.acc g)->st[k]?=some y:=by
  intro k y e hy
  by_cases hk:k<st.length
  ·rwa [List.getElem?_append_left hk] at e
  ·have hk':k=st.length:=by have:=(List.getElem?_eq_some_iff.1 e).1;simp at this;omega
   subst hk'
   rw [List.getElem?_append_right (Nat.le_refl _)] at e
   simp at e
   exact absurd e.symm (hy 0)
 have m:Moves D w ow μ st D w ow μ (st++[.acc 0]):=
  ⟨fun _ _ d=>d,Keeps.refl _ _,fun k _ _ e=>⟨rfl,_,oap e⟩,fun k _ _ _ e=>⟨rfl,_,oap e⟩,fun k _ e _=>⟨rfl,_,oap e,rfl⟩,fun k _ _ _ e=>⟨_,_,oap e,Nat.le_refl _,fun _=>⟨rfl,ArrKeep.refl _ _ _ _ _⟩⟩,fun k g0 e=>⟨_,oap e,Nat.le_refl _,fun _ b ob=>⟨rfl,ob,fun _ d=>d⟩⟩⟩
 have par':∀ k,k<Γ.np->∃ b,(st++[BX.acc 0])[k]?=some b/\b.kind=Γ.K0 k:=fun k hk=>by obtain ⟨s,hs,h1⟩:=hw.par k hk;exact ⟨s,oap hs,h1⟩
 refine ⟨⟨fun k T s e=>?_,fun k K E es e=>?_,fun k b e=>?_,fun b k ob=>⟨(hw.owlt b k ob).1,by have:=(hw.owlt b k ob).2;simp;omega⟩,hw.dlt,hw.os,hw.tape,hw.output,hw.hs,hw.old,hw.dom0,hw.domN,hw.owN,by have:=hw.np;simp;omega,hw.mu0,par',fun b k y ob e hy o d=>?_,hw.keep0.trans m.keeps hw.dom0,hw.arr0_moves m par'⟩,m⟩
 ·obtain ⟨c,T1,q1,q2,q3,q4,q5⟩:=hw.box k T s (back e (by simp))
  exact ⟨c,T1,q1,q2,q3,q4,q5.mono m⟩
 ·exact hw.map k K E es (back e (by simp))
 ·cases b with
  | acc g=>trivial
  | _=>exact (hw.obj k _ (back e (by simp))).mono m.dom m.keeps (fun _=>rfl) (fun _ o=>⟨rfl,o,fun _ d=>d⟩)
 ·exact hw.lone b k y ob (back e hy) hy o d
theorem WRel.accBump (hw:WRel Γ D ow μ st w) {k g:Nat} (hk:st[k]?=some (.acc g)):WRel Γ D ow μ (st.set k (.acc (g+1))) w/\Moves D w ow μ st D w ow μ (st.set k (.acc (g+1))):=by
 have hlt:=(List.getElem?_eq_some_iff.1 hk).1
 have ne:∀ {j:Nat}{y:BX},st[j]?=some y->j≠k->(st.set k (BX.acc (g+1)))[j]?=some y:=fun e hj=>by rw [List.getElem?_set_ne (by omega)];exact e
 have same:(st.set k (BX.acc (g+1)))[k]?=some (.acc (g+1)):=by rw [List.getElem?_set_self hlt]
 have back:∀ {j:Nat}{y:BX},(st.set k (BX.acc (g+1)))[j]?=some y->(∀ g,y≠.acc g)->st[j]?=some y:=by
  intro j y e hy
  by_cases hj:j=k
  ·subst hj;rw [same] at e;cases e;exact absurd rfl (hy (g+1))
  ·rwa [List.getElem?_set_ne (by omega)] at e
 have m:Moves D w ow μ st D w ow μ (st.set k (.acc (g+1))):=by
  refine ⟨fun _ _ d=>d,Keeps.refl _ _,fun j T x e=>⟨rfl,?_⟩,fun j K E es e=>⟨rfl,?_⟩,fun j b e hs=>⟨rfl,b,?_,rfl⟩,fun j E g' xs e=>?_,fun j g' e=>?_⟩
  ·by_cases hj:j=k
   ·subst hj;rw [hk] at e;cases e
   ·exact ⟨_,ne e hj⟩
  ·by_cases hj:j=k
   ·subst hj;rw [hk] at e;cases e
   ·exact ⟨_,ne e hj⟩
  ·by_cases hj:j=k
   ·subst hj;rw [hk] at e;cases e;exact absurd rfl hs
   ·exact ne e hj
  ·by_cases hj:j=k
   ·subst hj;rw [hk] at e;cases e
   ·exact ⟨g',xs,ne e hj,Nat.le_refl _,fun _=>⟨rfl,ArrKeep.refl _ _ _ _ _⟩⟩
  ·by_cases hj:j=k
   ·subst hj;rw [hk] at e;cases e;exact ⟨_,same,by omega,fun h=>by omega⟩
   ·exact ⟨g',ne e hj,Nat.le_refl _,fun _ b ob=>⟨rfl,ob,fun _ d=>d⟩⟩
 have par':∀ j,j<Γ.np->∃ b,(st.set k (BX.acc (g+1)))[j]?=some b/\b.kind=Γ.K0 j:=by
  intro j hj
  obtain ⟨x,hx,p1⟩:=hw.par j hj
  by_cases hjk:j=k
  ·subst hjk;rw [hk] at hx;cases hx;exact ⟨_,same,p1⟩
  ·exact ⟨x,ne hx hjk,p1⟩
 refine ⟨⟨fun j T s e=>?_,fun j K E es e=>?_,fun j b e=>?_,fun b j ob=>by simpa using hw.owlt b j ob,hw.dlt,hw.os,hw.tape,hw.output,hw.hs,hw.old,hw.dom0,hw.domN,hw.owN,by simpa using hw.np,hw.mu0,par',fun b j y ob e hy o d=>hw.lone b j y ob (back e hy) hy o d,hw.keep0.trans m.keeps hw.dom0,hw.arr0_moves m par'⟩,m⟩
 ·obtain ⟨c,T1,q1,q2,q3,q4,q5⟩:=hw.box j T s (back e (by simp))
  exact ⟨c,T1,q1,q2,q3,q4,q5.mono m⟩
 ·exact hw.map j K E es (back e (by simp))
 ·cases b with
  | acc g=>trivial
  | _=>exact (hw.obj j _ (back e (by simp))).mono m.dom m.keeps (fun _=>rfl) (fun _ o=>⟨rfl,o,fun _ d=>d⟩)
theorem ajx (hw:WRel Γ D ow μ st w) {k:Nat}{st':List BX} (hst:(k=st.length/\st'=st++[.acc 0])∨(∃ g,st[k]?=some (.acc g)/\st'=st.set k (.acc (g+1)))) (g1:Nat) (hg1:st'[k]?=some (.acc g1))
 {E:TypeId}{z:Value} (hz:z.cells.size=Γ.P.cellsOf E) {zs:List PV}{L:List Value}{n cap:Nat} (hn:n=zs.length) (hL:L.length=zs.length*Γ.P.cellsOf E) (hcap:zs.length<=cap) (hmax:cap<=maxLen)
 (hr:∀ (i:Nat) (x:PV),zs[i]?=some x->Rep Γ.P D w E x ((L.drop (i*Γ.P.cellsOf E)).take (Γ.P.cellsOf E))):
 OpRes Γ D ow μ st w (.ok (.value (.slice (some ⟨w.heap.size,0,none⟩) n cap)) (w.drew.alloc (.cells (L.toArray++Builtin.zeroCells z.cells (cap-n)) E))) (.acc k g1 E zs) st':=by
 subst hn
 refine aox hw hst (w':=w.drew.alloc (.cells (L.toArray++Builtin.zeroCells z.cells (cap-zs.length)) E)) (gb:=w.heap.size) (Or.inl ⟨Nat.le_refl _,by simp⟩) (fun b hb _=>abn w.drew _ b hb) (by simp) rfl rfl rfl
  (Keeps.of_heap fun b o d=>abn w.drew _ b (hw.dlt b o d)) hL (aar w.drew _) ?_ hcap hmax ?_ (fun o _ d=>by have:=hw.dlt _ _ d;omega) hr g1 hg1
 ·simp
 ·simp only [Array.size_append,List.size_toArray,size_zeroCells,hz,hL,<-Nat.add_mul]
  congr 1;omega
theorem an1 (hw:WRel Γ D ow μ st w) (T ty E:TypeId) {inf:TypeInfo}{z:Value} (hT:Γ.P.underlying T=some (.slice E)) (hi:Γ.P.info? E=some inf) (hiz:inf.zero=some z) (his:inf.size=Γ.P.cellsOf E) (hzs:z.cells.size=Γ.P.cellsOf E) (hne:0<Γ.P.cellsOf E)
 (bytes:∀ n,n<=aao->n*inf.bytes<=140737488355328) {k g:Nat}{xs ys:List PV} (hk:st[k]?=some (.arr E g xs)) {xv yv:Value} (hx:SRep Γ.P D w ow μ st (.arr k g E) xv)
 (hnews:(ys=[]/\(yv=.slice none 0 0∨∃ b c',yv=.slice (some b) 0 c'))∨
  ∃ (b off cap:Nat) (L:List Value),yv=.slice (some ⟨b,off,none⟩) ys.length cap/\0<ys.length/\L.length=ys.length*Γ.P.cellsOf E/\(∀ (i:Nat) (x:PV),ys[i]?=some x->Rep Γ.P D w E x ((L.drop (i*Γ.P.cellsOf E)).take (Γ.P.cellsOf E)))/\
   (∀ j u,L[j]?=some u->w.cell? ((⟨b,off,none⟩:Addr).add j)=some u)) (hb:xs.length+ys.length<=aao):
 ∃ u w',(Builtin.append_ #[T,T] ty #[xv,yv]).run Γ.P w=.ok u w'/\OpRes Γ D ow μ st w (.ok (.value u) w') (.arr k (g+1) E) (st.set k (.arr E (g+1) (xs++ys))):=by
 have hlen:(xs++ys).length=xs.length+ys.length:=by simp
 have h63:xs.length+ys.length<=maxLen:=by unfold aao at hb;unfold maxLen;omega
 cases hx with
 | arrOld hk' hlt=>rw [hk] at hk';cases hk';omega
 | @arrNil _ _ _ a hk'=>
  rw [hk] at hk';cases hk'
  simp only [List.nil_append,List.length_nil,Nat.zero_add] at*
  rcases hnews with ⟨rfl,hv⟩ | ⟨b,off,cap,L,rfl,hpos,hL,hrep,hcells⟩
  ·obtain ⟨u0,u1,u2⟩:=hw.arrBump hk
   refine ⟨.slice a 0 0,w,abj w T ty E inf hT hi a 0 0 (by omega) yv hv (fun _=>⟨rfl,rfl⟩),?_⟩
   exact ⟨_,_,_,_,_,Or.inl rfl,u1,u2,.arrNil u0⟩
  ·have h48:ys.length*inf.bytes<=281474976710656:=by have:=bytes _ hb;omega
   have fin:∀ cap',ys.length<=cap'->cap'<=maxLen->OpRes Γ D ow μ st w (.ok (.value (.slice (some ⟨w.heap.size,0,none⟩) ys.length cap')) (w.drew.alloc (.cells (L.toArray++Builtin.zeroCells z.cells (cap' - ys.length)) E))) (.arr k (g+1) E) (st.set k (.arr E (g+1) ys)):=by
    intro cap' hge hle
    have hcs:(L.toArray++Builtin.zeroCells z.cells (cap' - ys.length)).size=cap'*Γ.P.cellsOf E:=by
     simp only [Array.size_append,List.size_toArray,size_zeroCells,hzs,hL,<-Nat.add_mul];congr 1;omega
    have hel:∀ (i:Nat) (x:PV),ys[i]?=some x->Rep Γ.P D w E x (((L.toArray++Builtin.zeroCells z.cells (cap' - ys.length)).toList.drop (i*Γ.P.cellsOf E)).take (Γ.P.cellsOf E)):=by
     intro i x hx
     have h2:(i+1)*Γ.P.cellsOf E<=ys.length*Γ.P.cellsOf E:=Nat.mul_le_mul_right _ (by have:=(List.getElem?_eq_some_iff.1 hx).1;omega)
     rw [Nat.add_mul] at h2
     simp only [Array.toList_append,List.toList_toArray]
     rw [List.drop_append_of_le_length (by omega),List.take_append_of_le_length (by rw [List.length_drop];omega)]
     exact hrep i x hx
    obtain ⟨u0,u1,u2⟩:=hw.growArr (gb:=w.heap.size) (xs':=ys) hk (w':=w.drew.alloc (.cells (L.toArray++Builtin.zeroCells z.cells (cap' - ys.length)) E)) (Or.inl ⟨Nat.le_refl _,by simp⟩) (fun b hb _=>abn w.drew _ b hb) (by simp) rfl rfl rfl (aar w.drew _) (by rw [hcs];exact Nat.mul_le_mul_right _ hge) hel
    refine ⟨_,_,_,_,_,Or.inl rfl,u1,u2,?_⟩
    have:=SRep.arr (P:=Γ.P) (D:=D) (w:=w.drew.alloc (.cells (L.toArray++Builtin.zeroCells z.cells (cap' - ys.length)) E)) (ow:=upd ow w.heap.size (some k)) (μ:=upd μ k w.heap.size) (cap:=cap') u0 hge hle (by rw [aae];exact aar w.drew _) (by rw [aae,aae]) hcs.symm
    rwa [aae] at this
   cases a with
   | none=>
    have hr:=run_append_nil (P:=Γ.P) w T ty E inf z hT hi hiz ⟨b,off,none⟩ ys.length cap L (by rw [his];exact hL) hcells hpos (by unfold aao at hb;omega) h48
    exact ⟨_,_,hr,fin _ (grownCap_ge _ _ _ _) (grownCap_le_maxLen _ _ _ _ h63)⟩
   | some a=>
    have hr:=run_append_grow (P:=Γ.P) w T ty E inf z hT hi hiz a 0 0 [] (by simp) (fun j u hj=>by simp at hj) ⟨b,off,none⟩ ys.length cap L (by rw [his];exact hL) hcells (by omega) (by unfold aao at hb;omega) (growslice_fits (by omega) (bytes _ (by omega)))
    simp only [Nat.zero_add] at hr
    refine ⟨_,_,hr,?_⟩
    rw [show (#[]:Array Value)++L.toArray=L.toArray by simp]
    exact fin _ (by have:=grownCap_ge;exact this _ _ _ _) (grownCap_le_maxLen _ _ _ _ h63)
 | @arr _ _ ocap _ xs0 cur hk' hcap hmax hheap hob hcs=>
  rw [hk] at hk';cases hk'
  have hrow:xs.length*Γ.P.cellsOf E<=cur.size/\∀ (i:Nat) (x:PV),xs[i]?=some x->Rep Γ.P D w E x ((cur.toList.drop (i*Γ.P.cellsOf E)).take (Γ.P.cellsOf E)):=by
   rcases hw.obj k _ hk with h0 | ⟨cur2,q1,q2,q3,q4,q5⟩
   ·subst h0;exact ⟨by simp,fun i x hi=>by simp at hi⟩
   ·rw [hheap] at q1;cases q1;exact ⟨q4,q5⟩
  rcases hnews with ⟨rfl,hv⟩ | ⟨b,off,cap,L,rfl,hpos,hL,hrep,hcells⟩
  ·obtain ⟨u0,u1,u2⟩:=hw.arrBump hk
   refine ⟨_,w,abj w T ty E inf hT hi _ _ _ hcap yv hv (fun h=>by cases h),?_⟩
   rw [List.append_nil]
   exact ⟨_,_,_,_,_,Or.inl rfl,u1,u2,.arr u0 hcap hmax hheap hob hcs⟩
  ·have hLx:(cur.toList.take (xs.length*Γ.P.cellsOf E)).length=xs.length*Γ.P.cellsOf E:=by simp;omega
   have hrx:∀ (i:Nat) (x:PV),xs[i]?=some x->Rep Γ.P D w E x (((cur.toList.take (xs.length*Γ.P.cellsOf E)).drop (i*Γ.P.cellsOf E)).take (Γ.P.cellsOf E)):=by
    intro i x hi
    have h2:(i+1)*Γ.P.cellsOf E<=xs.length*Γ.P.cellsOf E:=Nat.mul_le_mul_right _ (by have:=(List.getElem?_eq_some_iff.1 hi).1;omega)
    rw [Nat.add_mul] at h2
    rw [List.drop_take,List.take_take,Nat.min_eq_left (by omega)]
    exact hrow.2 i x hi
   have happ:=ag0 hLx hL hrx hrep
   have hcx:∀ j u,(cur.toList.take (xs.length*Γ.P.cellsOf E))[j]?=some u->w.cell? ((⟨μ k,0,none⟩:Addr).add j)=some u:=by
    intro j u hj
    have hlt:=(List.getElem?_eq_some_iff.1 hj).1
    rw [hLx] at hlt
    rw [List.getElem?_take_of_lt hlt] at hj
    rw [ab6,Nat.zero_add]
    simp only [World.cell?,hheap]
    simpa using hj
   by_cases hroom:xs.length+ys.length<=ocap
   ·have hfit:xs.length*inf.size+L.length<=cur.size:=by rw [his,hL,<-hcs,<-Nat.add_mul];exact Nat.mul_le_mul_right _ hroom
    have hr:=run_append_room (P:=Γ.P) w T ty E inf hT hi (μ k) xs.length ocap cur hheap ⟨b,off,none⟩ ys.length cap L (by rw [his];exact hL) hcells (ajj hL hne hrep) hroom hfit
    refine ⟨_,_,hr,?_⟩
    rw [his] at hfit ⊢
    have hrw:(w.setRow (μ k) (cur.toList.take (xs.length*Γ.P.cellsOf E)++L++cur.toList.drop (xs.length*Γ.P.cellsOf E+L.length)).toArray).heap[μ k]?=some (.cells (cur.toList.take (xs.length*Γ.P.cellsOf E)++L++cur.toList.drop (xs.length*Γ.P.cellsOf E+L.length)).toArray E (0,0)):=setRow_heap w (μ k) cur _ E _ hheap
    have hsz2:(cur.toList.take (xs.length*Γ.P.cellsOf E)++L++cur.toList.drop (xs.length*Γ.P.cellsOf E+L.length)).toArray.size=cur.size:=by simp;omega
    have hel:∀ (i:Nat) (x:PV),(xs++ys)[i]?=some x->Rep Γ.P D w E x (((cur.toList.take (xs.length*Γ.P.cellsOf E)++L++cur.toList.drop (xs.length*Γ.P.cellsOf E+L.length)).toArray.toList.drop (i*Γ.P.cellsOf E)).take (Γ.P.cellsOf E)):=by
     intro i x hx
     have h2:(i+1)*Γ.P.cellsOf E<=(xs++ys).length*Γ.P.cellsOf E:=Nat.mul_le_mul_right _ (by have:=(List.getElem?_eq_some_iff.1 hx).1;omega)
     rw [Nat.add_mul,hlen,Nat.add_mul] at h2
     simp only
     rw [List.drop_append_of_le_length (by simp only [List.length_append,hLx,hL];omega),List.take_append_of_le_length (by simp only [List.length_drop,List.length_append,hLx,hL];omega)]
     exact happ i x hx
    obtain ⟨u0,u1,u2⟩:=hw.growArr (gb:=μ k) (xs':=xs++ys) hk (Or.inr hob) (fun b' _ hb'=>setRow_other w (μ k) b' _ hb') (by simp) rfl rfl rfl hrw (by rw [hsz2,hlen,<-hcs];exact Nat.mul_le_mul_right _ hroom) hel
    refine ⟨_,_,_,_,_,Or.inl rfl,u1,u2,?_⟩
    rw [<-hlen]
    have:=SRep.arr (P:=Γ.P) (D:=D) (ow:=upd ow (μ k) (some k)) (μ:=upd μ k (μ k)) (cap:=ocap) u0 (by rw [hlen];exact hroom) hmax (by rw [aae];exact hrw) (by rw [aae,aae]) (by rw [hsz2];exact hcs)
    rwa [aae] at this
   ·have hr:=run_append_grow (P:=Γ.P) w T ty E inf z hT hi hiz ⟨μ k,0,none⟩ xs.length ocap _ (by rw [his];exact hLx) hcx ⟨b,off,none⟩ ys.length cap L (by rw [his];exact hL) hcells (by omega) (by unfold aao at hb;omega) (growslice_fits (by omega) (bytes _ hb))
    refine ⟨_,_,hr,?_⟩
    rw [show (cur.toList.take (xs.length*Γ.P.cellsOf E)).toArray++L.toArray=(cur.toList.take (xs.length*Γ.P.cellsOf E)++L).toArray by simp]
    generalize hgc:grownCap _ _ _ _=gc
    have hge:(xs++ys).length<=gc:=by rw [hlen,<-hgc];exact grownCap_ge _ _ _ _
    have hle:gc<=maxLen:=by rw [<-hgc];exact grownCap_le_maxLen _ _ _ _ h63
    rw [<-hlen]
    have hLL:(cur.toList.take (xs.length*Γ.P.cellsOf E)++L).length=(xs++ys).length*Γ.P.cellsOf E:=by rw [List.length_append,hLx,hL,hlen,Nat.add_mul]
    have hcs2:((cur.toList.take (xs.length*Γ.P.cellsOf E)++L).toArray++Builtin.zeroCells z.cells (gc-(xs++ys).length)).size=gc*Γ.P.cellsOf E:=by
     simp only [Array.size_append,List.size_toArray,size_zeroCells,hzs,hLL,<-Nat.add_mul];congr 1;omega
    have hel:∀ (i:Nat) (x:PV),(xs++ys)[i]?=some x->Rep Γ.P D w E x ((((cur.toList.take (xs.length*Γ.P.cellsOf E)++L).toArray++Builtin.zeroCells z.cells (gc-(xs++ys).length)).toList.drop (i*Γ.P.cellsOf E)).take (Γ.P.cellsOf E)):=by
     intro i x hx
     have h2:(i+1)*Γ.P.cellsOf E<=(xs++ys).length*Γ.P.cellsOf E:=Nat.mul_le_mul_right _ (by have:=(List.getElem?_eq_some_iff.1 hx).1;omega)
     rw [Nat.add_mul] at h2
     simp only [Array.toList_append,List.toList_toArray]
     rw [List.drop_append_of_le_length (by omega),List.take_append_of_le_length (by rw [List.length_drop];omega)]
     exact happ i x hx
    obtain ⟨u0,u1,u2⟩:=hw.growArr (gb:=w.heap.size) (xs':=xs++ys) hk (w':=w.drew.alloc (.cells ((cur.toList.take (xs.length*Γ.P.cellsOf E)++L).toArray++Builtin.zeroCells z.cells (gc-(xs++ys).length)) E)) (Or.inl ⟨Nat.le_refl _,by simp⟩) (fun b hb _=>abn w.drew _ b hb) (by simp) rfl rfl rfl (aar w.drew _) (by rw [hcs2];exact Nat.mul_le_mul_right _ hge) hel
    refine ⟨_,_,_,_,_,Or.inl rfl,u1,u2,?_⟩
    have:=SRep.arr (P:=Γ.P) (D:=D) (w:=w.drew.alloc (.cells ((cur.toList.take (xs.length*Γ.P.cellsOf E)++L).toArray++Builtin.zeroCells z.cells (gc-(xs++ys).length)) E)) (ow:=upd ow w.heap.size (some k)) (μ:=upd μ k w.heap.size) (cap:=gc) u0 hge hle (by rw [aae];exact aar w.drew _) (by rw [aae,aae]) hcs2.symm
    rwa [aae] at this
theorem WRel.arrNew (hw:WRel Γ D ow μ st w) (E:TypeId):WRel Γ D ow μ (st++[.arr E 0 []]) w/\Moves D w ow μ st D w ow μ (st++[.arr E 0 []]):=by
 have olt:∀ {k:Nat}{y:BX},st[k]?=some y->k<st.length:=fun e=>(List.getElem?_eq_some_iff.1 e).1
 have oap:∀ {k:Nat}{y:BX},st[k]?=some y->(st++[BX.arr E 0 []])[k]?=some y:=fun {k y} e=>by rw [List.getElem?_append_left (olt e)];exact e
 have back:∀ {k:Nat}{y:BX},(st++[BX.arr E 0 []])[k]?=some y->y≠.arr E 0 []->st[k]?=some y:=by
  intro k y e hy
  by_cases hk:k<st.length
  ·rwa [List.getElem?_append_left hk] at e
  ·have hk':k=st.length:=by have:=(List.getElem?_eq_some_iff.1 e).1;simp at this;omega
   subst hk'
   rw [List.getElem?_append_right (Nat.le_refl _)] at e
   simp at e
   exact absurd e.symm hy
 have m:Moves D w ow μ st D w ow μ (st++[.arr E 0 []]):=
  ⟨fun _ _ d=>d,Keeps.refl _ _,fun k _ _ e=>⟨rfl,_,oap e⟩,fun k _ _ _ e=>⟨rfl,_,oap e⟩,fun k _ e _=>⟨rfl,_,oap e,rfl⟩,fun k _ _ _ e=>⟨_,_,oap e,Nat.le_refl _,fun _=>⟨rfl,ArrKeep.refl _ _ _ _ _⟩⟩,fun k g0 e=>⟨_,oap e,Nat.le_refl _,fun _ b ob=>⟨rfl,ob,fun _ d=>d⟩⟩⟩
 have par':∀ k,k<Γ.np->∃ b,(st++[BX.arr E 0 []])[k]?=some b/\b.kind=Γ.K0 k:=fun k hk=>by obtain ⟨s,hs,h1⟩:=hw.par k hk;exact ⟨s,oap hs,h1⟩
 refine ⟨⟨fun k T s e=>?_,fun k K E es e=>?_,fun k b e=>?_,fun b k ob=>⟨(hw.owlt b k ob).1,by have:=(hw.owlt b k ob).2;simp;omega⟩,hw.dlt,hw.os,hw.tape,hw.output,hw.hs,hw.old,hw.dom0,hw.domN,hw.owN,by have:=hw.np;simp;omega,hw.mu0,par',fun b k y ob e hy o d=>?_,hw.keep0.trans m.keeps hw.dom0,hw.arr0_moves m par'⟩,m⟩
 ·obtain ⟨c,T1,q1,q2,q3,q4,q5⟩:=hw.box k T s (back e (by simp))
  exact ⟨c,T1,q1,q2,q3,q4,q5.mono m⟩
 ·exact hw.map k K E es (back e (by simp))
 ·by_cases hb:b=.arr E 0 []
  ·subst hb;exact Or.inl rfl
  ·exact (hw.obj k _ (back e hb)).mono m.dom m.keeps (fun _=>rfl) (fun _ o=>⟨rfl,o,fun _ d=>d⟩)
 ·have hlt:=(hw.owlt b k ob).2
  rw [List.getElem?_append_left hlt] at e
  exact hw.lone b k y ob e hy o d
theorem a5t (hw:WRel Γ D ow μ st w) {E:TypeId} (hne:0<Γ.P.cellsOf E) {y:SV}{yv:Value}{ys:List PV} (hy:SRep Γ.P D w ow μ st y yv) (hl:a4e st y=some ys) (c1:ayx Γ.P E y=true):(ys=[]/\(yv=.slice none 0 0∨∃ b c',yv=.slice (some b) 0 c'))∨
 ∃ (b off cap:Nat) (L:List Value),yv=.slice (some ⟨b,off,none⟩) ys.length cap/\0<ys.length/\L.length=ys.length*Γ.P.cellsOf E/\(∀ (i:Nat) (x:PV),ys[i]?=some x->Rep Γ.P D w E x ((L.drop (i*Γ.P.cellsOf E)).take (Γ.P.cellsOf E)))/\
  (∀ j u,L[j]?=some u->w.cell? ((⟨b,off,none⟩:Addr).add j)=some u):=by
 have plain:∀ (z:SV),SRep Γ.P D w ow μ st z yv->al8 z=some ys->alu Γ.P E z=true->(ys=[]/\(yv=.slice none 0 0∨∃ b c',yv=.slice (some b) 0 c'))∨
  ∃ (b off cap:Nat) (L:List Value),yv=.slice (some ⟨b,off,none⟩) ys.length cap/\0<ys.length/\L.length=ys.length*Γ.P.cellsOf E/\(∀ (i:Nat) (x:PV),ys[i]?=some x->Rep Γ.P D w E x ((L.drop (i*Γ.P.cellsOf E)).take (Γ.P.cellsOf E)))/\
   (∀ j u,L[j]?=some u->w.cell? ((⟨b,off,none⟩:Addr).add j)=some u):=by
  intro z hz hl c1
  have hsl:=aki hz hl c1
  cases hsl with
  | @nil a c hac=>
   cases a with
   | none=>have:=hac rfl;subst this;exact Or.inl ⟨rfl,Or.inl rfl⟩
   | some a=>exact Or.inl ⟨rfl,Or.inr ⟨a,c,rfl⟩⟩
  | @mk b off cap _ L hcap hL hrep hheld=>
   cases ys with
   | nil=>exact Or.inl ⟨rfl,Or.inr ⟨⟨b,off,none⟩,cap,rfl⟩⟩
   | cons q r=>exact Or.inr ⟨b,off,cap,L,rfl,by simp,hL,hrep,fun j u hj=>by rw [ab6];exact (hheld j u hj).2⟩
 cases y with
 | arr k g E'=>
  have:=Nat.eq_of_beq_eq_true (show Nat.beq E E'=true from c1)
  subst this
  have hk:=adg (show af8 st k g E=some ys from hl)
  cases hy with
  | arrOld h1 h2 _=>rw [hk] at h1;cases h1;omega
  | @arrNil _ _ _ a h1=>
   rw [hk] at h1;cases h1
   cases a with
   | none=>exact Or.inl ⟨rfl,Or.inl rfl⟩
   | some a=>exact Or.inl ⟨rfl,Or.inr ⟨a,0,rfl⟩⟩
  | @arr _ _ cap _ _ cur h1 h2 h3 h4 h5 h6=>
   rw [hk] at h1;cases h1
   cases ys with
   | nil=>exact Or.inl ⟨rfl,Or.inr ⟨_,_,rfl⟩⟩
   | cons q r=>
    rcases hw.obj k _ hk with h | ⟨cur',a1,a2,a3,a4,a5⟩
    ·cases h
    ·rw [h4] at a1;cases a1
     have hlen:(cur.toList.take ((q::r).length*Γ.P.cellsOf E)).length=(q::r).length*Γ.P.cellsOf E:=by rw [List.length_take];exact Nat.min_eq_left (by simpa using a4)
     refine Or.inr ⟨μ k,0,cap,cur.toList.take ((q::r).length*Γ.P.cellsOf E),rfl,by simp,hlen,fun i x hi=>?_,fun j u hj=>?_⟩
     ·have hil:=(List.getElem?_eq_some_iff.1 hi).1
      have hm:i*Γ.P.cellsOf E+Γ.P.cellsOf E<=(q::r).length*Γ.P.cellsOf E:=by rw [<-Nat.succ_mul];exact Nat.mul_le_mul_right _ hil
      have:=a5 i x hi
      rwa [List.drop_take,List.take_take,Nat.min_eq_left (by omega)]
     ·have hjl:j<(q::r).length*Γ.P.cellsOf E:=by rw [<-hlen];exact (List.getElem?_eq_some_iff.1 hj).1
      rw [List.getElem?_take_of_lt hjl] at hj
      rw [ab6,Nat.zero_add]
      simp only [World.cell?,h4]
      simpa using hj
 | _=>exact plain _ hy hl c1
theorem aqm (hw:WRel Γ D ow μ st w) (T ty:TypeId) (x y:SV) (xv yv:Value) (v:SV) (st':List BX) (hx:SRep Γ.P D w ow μ st x xv) (hy:SRep Γ.P D w ow μ st y yv) (h:acw Γ.P st T x y=.upd true v st'):
 ∃ u w',(Builtin.append_ #[T,T] ty #[xv,yv]).run Γ.P w=.ok u w'/\OpRes Γ D ow μ st w (.ok (.value u) w') v st':=by
 unfold acw at h
 split at h
 ·rename_i E ys hT hl
  cases hc:(ayx Γ.P E y&&Nat.ble (Γ.P.bytesOf E) 512&&!(Nat.beq (Γ.P.bytesOf E) 0)&&!(Nat.beq (Γ.P.cellsOf E) 0)&&ab5 Γ.P E) with
  | false=>rw [hc] at h;simp at h
  | true=>
   rw [hc] at h
   simp only [cond_true] at h
   simp only [Bool.and_eq_true,Bool.not_eq_true'] at hc
   obtain ⟨⟨⟨⟨c1,c2⟩,c3⟩,c4⟩,c5⟩:=hc
   have hne:0<Γ.P.cellsOf E:=by
    rcases Nat.eq_zero_or_pos (Γ.P.cellsOf E) with h0 | h0
    ·rw [h0] at c4;cases c4
    ·exact h0
   have hby:Γ.P.bytesOf E<=512:=Nat.le_of_ble_eq_true c2
   obtain ⟨inf,z,hi,hiz,his,hzs,hze,hzr,hzo⟩:=abq (Γ:=Γ) (D:=D) (ow:=ow) (μ:=μ) (st:=st) (w:=w) c5
   have hib:inf.bytes=Γ.P.bytesOf E:=by simp [Program.bytesOf,hi]
   have hnews:=a5t hw hne hy hl c1
   have bytes:∀ n,n<=aao->n*inf.bytes<=140737488355328:=by
    intro n hn
    have h1:n*inf.bytes<=aao*512:=Nat.mul_le_mul hn (by rw [hib];exact hby)
    unfold aao at h1;omega
   split at h
   ·simp only [Ac.upd.injEq,decide_eq_true_eq] at h
    obtain ⟨hb,rfl,rfl⟩:=h
    cases hx
    rcases hnews with ⟨rfl,hv⟩ | ⟨b,off,cap,L,rfl,hpos,hL,hrep,hcells⟩
    ·refine ⟨_,w,abj w T ty E inf hT hi none 0 0 (by omega) yv hv (fun _=>⟨rfl,rfl⟩),?_⟩
     obtain ⟨u1,u2⟩:=hw.accNil
     exact ⟨_,_,_,_,_,Or.inl rfl,u1,u2,.acc (.nil fun _=>rfl) (by rw [List.getElem?_append_right (Nat.le_refl _)];simp) (Nat.le_refl _) (fun _=>Or.inl rfl)⟩
    ·have h48:ys.length*inf.bytes<=281474976710656:=by have:=bytes _ hb;omega
     have hr:=run_append_nil (P:=Γ.P) w T ty E inf z hT hi hiz ⟨b,off,none⟩ ys.length cap L (by rw [his];exact hL) hcells hpos (by unfold aao at hb;omega) h48
     refine ⟨_,_,hr,ajx hw (Or.inl ⟨rfl,rfl⟩) 0 (by rw [List.getElem?_append_right (Nat.le_refl _)];simp) hzs rfl hL (grownCap_ge _ _ _ _) (grownCap_le_maxLen _ _ _ _ (by unfold aao at hb;unfold maxLen;omega)) hrep⟩
   ·rename_i k g E' xs
    cases hg:(Nat.beq E E'&&ana st k g) with
    | false=>rw [hg] at h;simp at h
    | true=>
     rw [hg] at h
     simp only [cond_true,Ac.upd.injEq,decide_eq_true_eq] at h
     obtain ⟨hb,rfl,rfl⟩:=h
     simp only [Bool.and_eq_true] at hg
     have:=Nat.eq_of_beq_eq_true hg.1;subst this
     have hg2:=hg.2
     cases hx with
     | @acc _ _ g0 _ _ _ hxs hk hle hown=>
      simp only [ana,hk] at hg2
      have:=Nat.eq_of_beq_eq_true hg2;subst this
      have hlt:=(List.getElem?_eq_some_iff.1 hk).1
      have hk':(st.set k (BX.acc (g+1)))[k]?=some (.acc (g+1)):=by rw [List.getElem?_set_self hlt]
      have h63:xs.length+ys.length<=maxLen:=by unfold aao at hb;unfold maxLen;omega
      have own:=hown rfl
      rcases hnews with ⟨rfl,hv⟩ | ⟨b,off,cap,L,rfl,hpos,hL,hrep,hcells⟩
      ·obtain ⟨u1,u2⟩:=hw.accBump hk
       have fin:OpRes Γ D ow μ st w (.ok (.value xv) w) (.acc k (g+1) E (xs++[])) (st.set k (.acc (g+1))):=by
        rw [List.append_nil]
        exact ⟨_,_,_,_,_,Or.inl rfl,u1,u2,.acc hxs hk' (Nat.le_refl _) (fun _=>own)⟩
       refine ⟨xv,w,?_,fin⟩
       rcases own with rfl | ⟨gb,cap,cur,rfl,_,hcap,_⟩
       ·exact abj w T ty E inf hT hi none 0 0 (by omega) yv hv (fun _=>⟨rfl,rfl⟩)
       ·exact abj w T ty E inf hT hi _ _ _ hcap yv hv (fun h=>by cases h)
      ·have hlen:(xs++ys).length=xs.length+ys.length:=by simp
       rcases own with rfl | ⟨gb,ocap,cur,rfl,hheap,hcap,hmax,hcs,hob,hfree⟩
       ·have hx0:xs=[]:=by cases hxs;rfl
        subst hx0
        simp only [List.nil_append,List.length_nil,Nat.zero_add] at*
        have h48:ys.length*inf.bytes<=281474976710656:=by have:=bytes _ hb;omega
        have hr:=run_append_nil (P:=Γ.P) w T ty E inf z hT hi hiz ⟨b,off,none⟩ ys.length cap L (by rw [his];exact hL) hcells hpos (by unfold aao at hb;omega) h48
        exact ⟨_,_,hr,ajx hw (Or.inr ⟨g,hk,rfl⟩) (g+1) hk' hzs rfl hL (grownCap_ge _ _ _ _) (grownCap_le_maxLen _ _ _ _ h63) hrep⟩
       ·obtain ⟨Lx,hLx,hrx,hheld⟩:=hxs.held
        have hcx:∀ j u,Lx[j]?=some u->w.cell? ((⟨gb,0,none⟩:Addr).add j)=some u:=fun j u hj=>by rw [ab6];exact (hheld j u hj).2
        have htake:cur.toList.take Lx.length=Lx:=by
         apply List.ext_getElem?
         intro j
         by_cases hj:j<Lx.length
         ·rw [List.getElem?_take_of_lt hj]
          have:=hcx j _ (List.getElem?_eq_getElem hj)
          rw [ab6,Nat.zero_add] at this
          simp only [World.cell?,hheap] at this
          rw [List.getElem?_eq_getElem hj]
          simpa using this
         ·rw [List.getElem?_eq_none (by simp;omega),List.getElem?_eq_none (by omega)]
        have happ:=ag0 hLx hL hrx hrep
        have hLL:(Lx++L).length=(xs++ys).length*Γ.P.cellsOf E:=by simp [hLx,hL,Nat.add_mul]
        by_cases hroom:xs.length+ys.length<=ocap
        ·have hfit:xs.length*inf.size+L.length<=cur.size:=by rw [his,hL,hcs,<-Nat.add_mul];exact Nat.mul_le_mul_right _ hroom
         have hr:=run_append_room (P:=Γ.P) w T ty E inf hT hi gb xs.length ocap cur hheap ⟨b,off,none⟩ ys.length cap L (by rw [his];exact hL) hcells (ajj hL hne hrep) hroom hfit
         refine ⟨_,_,hr,?_⟩
         have hxl:xs.length*Γ.P.cellsOf E=Lx.length:=hLx.symm
         have e1:cur.toList.take (xs.length*inf.size)++L++cur.toList.drop (xs.length*inf.size+L.length)=Lx++L++cur.toList.drop (Lx.length+L.length):=by rw [his,hxl,htake]
         rw [e1]
         have hrow:(w.setRow gb (Lx++L++cur.toList.drop (Lx.length+L.length)).toArray).heap[gb]?=some (.cells (Lx++L++cur.toList.drop (Lx.length+L.length)).toArray E (0,0)):=setRow_heap w gb cur _ E _ hheap
         have hcl:Lx.length+L.length<=cur.size:=by rw [hLx,hL,hcs,<-Nat.add_mul];exact Nat.mul_le_mul_right _ hroom
         have hkeep:Keeps D w (w.setRow gb (Lx++L++cur.toList.drop (Lx.length+L.length)).toArray):=by
          refine ⟨fun b' o d=>?_,fun b' o d es c he=>?_⟩
          ·by_cases hb':b'=gb
           ·subst hb'
            have ho:o<Lx.length:=by
             rcases Nat.lt_or_ge o Lx.length with h' | h'
             ·exact h'
             ·exact absurd d (hfree o (by omega))
            simp only [World.cell?,hrow,hheap]
            have:cur.toList[o]?=Lx[o]?:=by rw [<-htake,List.getElem?_take_of_lt ho]
            simp only [Option.isSome_none,Bool.false_eq_true,if_false]
            rw [List.getElem?_toArray,List.append_assoc,List.getElem?_append_left ho,<-this]
            simp
           ·exact cell?_of_heap (setRow_other w gb b' _ hb') o
          ·by_cases hb':b'=gb
           ·subst hb';rw [hheap] at he;cases he
           ·rw [setRow_other w gb b' _ hb'];exact he
         rw [<-hlen]
         refine aox hw (Or.inr ⟨g,hk,rfl⟩) (gb:=gb) (Or.inr hob) (fun b' _ hb'=>setRow_other w gb b' _ hb') (by simp) rfl rfl rfl hkeep hLL hrow (by rw [List.toList_toArray,List.take_left]) (by rw [hlen];exact hroom) hmax ?_ (fun o ho=>hfree o ?_) happ (g+1) hk'
         ·have hcl':Lx.length+L.length<=cur.toList.length:=by simpa using hcl
          have hcz:cur.toList.length=cur.size:=by simp
          rw [<-hcs,List.size_toArray,List.length_append,List.length_append,List.length_drop];omega
         ·rw [hlen,Nat.add_mul] at ho;omega
        ·have hr:=run_append_grow (P:=Γ.P) w T ty E inf z hT hi hiz ⟨gb,0,none⟩ xs.length ocap Lx (by rw [his];exact hLx) hcx ⟨b,off,none⟩ ys.length cap L (by rw [his];exact hL) hcells (by omega) (by unfold aao at hb;omega) (growslice_fits (by omega) (bytes _ hb))
         refine ⟨_,_,hr,?_⟩
         rw [show Lx.toArray++L.toArray=(Lx++L).toArray by simp]
         exact ajx hw (Or.inr ⟨g,hk,rfl⟩) (g+1) hk' hzs hlen.symm hLL (by rw [hlen];exact grownCap_ge _ _ _ _) (grownCap_le_maxLen _ _ _ _ h63) happ
   ·rename_i E'
    cases hg:Nat.beq E E' with
    | false=>rw [hg] at h;simp at h
    | true=>
     rw [hg] at h
     simp only [cond_true,Ac.upd.injEq,decide_eq_true_eq] at h
     obtain ⟨hb,rfl,rfl⟩:=h
     have:=Nat.eq_of_beq_eq_true hg;subst this
     cases hx with
     | @lit _ _ a hxs=>
      obtain ⟨u1,u2⟩:=hw.arrNew E
      have hk1:(st++[BX.arr E 0 []])[st.length]?=some (.arr E 0 []):=by rw [List.getElem?_append_right (Nat.le_refl _)];simp
      obtain ⟨u,w',r1,v1,w1,D1,ow1,μ1,r2,r3,r4,r5⟩:=an1 u1 T ty E (ys:=ys) (yv:=yv) hT hi hiz his hzs hne bytes hk1 (xv:=.slice (some a) 0 0) (.arrNil hk1) hnews (by simpa using hb)
      have e1:(st++[BX.arr E 0 []]).set st.length (.arr E (0+1) ([]++ys))=st++[.arr E 1 ys]:=by simp
      rw [e1] at r3 r4 r5
      exact ⟨u,w',r1,v1,w1,D1,ow1,μ1,r2,r3,u2.trans r4,r5⟩
   ·rename_i E' x0 xs0
    generalize hxx:x0::xs0=xs at hx h
    clear hxx
    cases hg:Nat.beq E E' with
    | false=>rw [hg] at h;simp at h
    | true=>
     rw [hg] at h
     simp only [cond_true,Ac.upd.injEq,decide_eq_true_eq] at h
     obtain ⟨hb,rfl,rfl⟩:=h
     have:=Nat.eq_of_beq_eq_true hg;subst this
     cases hx with
     | @lit _ _ a hxs=>
      have hlen:(xs++ys).length=xs.length+ys.length:=by simp
      rcases hnews with ⟨rfl,hv⟩ | ⟨b,off,cap,L,rfl,hpos,hL,hrep,hcells⟩
      ·refine ⟨_,w,abj w T ty E inf hT hi _ _ _ (Nat.le_refl _) yv hv (fun h=>by cases h),?_⟩
       rw [List.append_nil]
       exact OpRes.still hw rfl (.slice hxs)
      ·have hlit:∃ (Lx:List Value),Lx.length=xs.length*Γ.P.cellsOf E/\(∀ (i:Nat) (x:PV),xs[i]?=some x->Rep Γ.P D w E x ((Lx.drop (i*Γ.P.cellsOf E)).take (Γ.P.cellsOf E)))/\∀ j u,Lx[j]?=some u->w.cell? (a.add j)=some u:=by
        generalize hn:xs.length=n at hxs
        generalize hvv:Value.slice (some a) n n=vv at hxs
        cases hxs with
        | nil=>
         exact ⟨[],by simp at hn;simp [<-hn],fun i x hi=>by simp at hi,fun j u hj=>by simp at hj⟩
        | @mk b0 off0 cap0 _ Lx h1 h2 h3 h4=>
         cases hvv
         exact ⟨Lx,by rw [h2],h3,fun j u hj=>by rw [ab6];exact (h4 j u hj).2⟩
       obtain ⟨Lx,hLx,hrx,hcx⟩:=hlit
       have happ:=ag0 hLx hL hrx hrep
       have hLL:(Lx++L).length=(xs++ys).length*Γ.P.cellsOf E:=by simp [hLx,hL,Nat.add_mul]
       have h63:xs.length+ys.length<=maxLen:=by unfold aao at hb;unfold maxLen;omega
       have hr:=run_append_grow (P:=Γ.P) w T ty E inf z hT hi hiz a xs.length xs.length Lx (by rw [his];exact hLx) hcx ⟨b,off,none⟩ ys.length cap L (by rw [his];exact hL) hcells (by omega) (by unfold aao at hb;omega) (growslice_fits (by omega) (bytes _ hb))
       refine ⟨_,_,hr,?_⟩
       rw [show Lx.toArray++L.toArray=(Lx++L).toArray by simp]
       generalize hcap:grownCap _ _ _ _=gc
       have hge:(xs++ys).length<=gc:=by rw [hlen,<-hcap];exact grownCap_ge _ _ _ _
       rw [<-hlen]
       have g:Grew w (w.drew.alloc (.cells ((Lx++L).toArray++Builtin.zeroCells z.cells (gc-(xs++ys).length)) E)):=(Grew.drawn w (w.drawn+1)).trans (Grew.alloc w.drew _)
       refine OpRes.grew hw (D':=fun b o=>D b o∨(b=w.heap.size/\o<(Lx++L).length)) rfl g (fun b o d=>Or.inl d) (fun b o d=>d.imp id (fun d=>⟨by omega,by rw [d.1];simp⟩)) (fun m=>.slice ?_)
       refine .mk hge hLL (fun i x hx=>(happ i x hx).mono m.dom m.keeps) (fun j u hj=>?_)
       have hlt:=(List.getElem?_eq_some_iff.1 hj).1
       refine ⟨Or.inr ⟨rfl,by omega⟩,?_⟩
       have hnew:(w.drew.alloc (.cells ((Lx++L).toArray++Builtin.zeroCells z.cells (gc-(xs++ys).length)) E)).heap[w.heap.size]?=some (.cells ((Lx++L).toArray++Builtin.zeroCells z.cells (gc-(xs++ys).length)) E (0,0)):=aar w.drew _
       simp only [Nat.zero_add,World.cell?,hnew]
       simp only [Option.isSome_none,Bool.false_eq_true,if_false]
       rw [Array.getElem?_append_left (by simpa using hlt)]
       simpa using hj
   ·rename_i k g E'
    cases hg:Nat.beq E E' with
    | false=>rw [hg] at h;simp at h
    | true=>
     rw [hg] at h
     simp only [cond_true] at h
     have:=Nat.eq_of_beq_eq_true hg;subst this
     split at h
     case h_2=>cases h
     rename_i xs hat
     have hk:=adg hat
     simp only [Ac.upd.injEq,decide_eq_true_eq] at h
     obtain ⟨hb,rfl,rfl⟩:=h
     exact an1 hw T ty E hT hi hiz his hzs hne bytes hk hx hnews hb
   ·simp at h
 ·simp at h
theorem amb (hw:WRel Γ D ow μ st w) (T:TypeId) (x y:SV) (xv yv:Value) (v:SV) (st':List BX) (hx:SRep Γ.P D w ow μ st x xv) (hy:SRep Γ.P D w ow μ st y yv) (h:ac0 Γ.P T x y st=.upd true v st'):
 ∃ u w',(Instr.makeSlice T xv yv).run Γ.P w=.ok u w'/\OpRes Γ D ow μ st w (.ok (.value u) w') v st':=by
 unfold ac0 at h
 split at h
 ·rename_i E c hT
  cases hc:(ab5 Γ.P E&&!(Nat.beq (Γ.P.cellsOf E) 0)&&Nat.ble (Γ.P.bytesOf E) 512) with
  | false=>rw [hc] at h;cases h
  | true=>
   rw [hc] at h
   simp only [cond_true,Ac.upd.injEq,decide_eq_true_eq] at h
   obtain ⟨hb,rfl,rfl⟩:=h
   simp only [Bool.and_eq_true,Bool.not_eq_true'] at hc
   obtain ⟨⟨c1,c2⟩,c3⟩:=hc
   have hby:Γ.P.bytesOf E<=512:=Nat.le_of_ble_eq_true c3
   obtain ⟨inf,z,hi,hiz,his,hzs,hze,hzr,hzo⟩:=abq (Γ:=Γ) (D:=D) (ow:=ow) (μ:=μ) (st:=st) (w:=w) c1
   have hib:inf.bytes=Γ.P.bytesOf E:=by simp [Program.bytesOf,hi]
   cases hx;cases hy
   obtain ⟨n,rfl⟩:∃ n:Nat,c=(n:Int):=⟨c.toNat,by omega⟩
   have hn:n<=68719476736:=by unfold aao at hb;omega
   have hbn:(inf.bytes:Int)*(n:Int)<=281474976710656:=by
    have h1:inf.bytes*n<=512*68719476736:=Nat.mul_le_mul (by rw [hib];exact hby) hn
    have h2:((inf.bytes*n:Nat):Int)<=281474976710656:=by omega
    rwa [Int.natCast_mul] at h2
   have hr:=run_make (P:=Γ.P) w T E inf z hT hi hiz .i64 .i64 0 n (Int.le_refl _) (by omega) hbn (by omega)
   simp only [Int.toNat_zero,Int.toNat_natCast] at hr
   refine ⟨_,_,hr,aox hw (Or.inl ⟨rfl,rfl⟩) (gb:=w.heap.size) (zs:=[]) (L:=[]) (Or.inl ⟨Nat.le_refl _,by simp⟩) (fun b hb _=>abn w _ b hb) (by simp) rfl rfl rfl
    (Keeps.of_heap fun b o d=>abn w _ b (hw.dlt b o d)) (by simp) (aar w _) (by simp) (by simp) (by unfold maxLen;omega) (by rw [size_madeCells,his]) (fun o _ d=>by have:=hw.dlt _ _ d;omega) (fun i x hi=>by simp at hi) 0 (by rw [List.getElem?_append_right (Nat.le_refl _)];simp)⟩
 ·cases h
end
end Go.Ab
