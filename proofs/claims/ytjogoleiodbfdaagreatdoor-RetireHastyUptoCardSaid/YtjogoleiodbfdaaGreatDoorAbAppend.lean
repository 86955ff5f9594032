/- append. -/
import Derived.Test.YtjogoleiodbfdaaGreatDoorAbIter
set_option linter.unusedVariables false
set_option linter.unusedSimpArgs false
set_option linter.unnecessarySimpa false
namespace Go.Ab
open Go
section
variable {Γ:Ctx}{D:Dom}{ow:Own}{μ:Nat->Nat}{st:List BX}{w:World}
theorem WRel.setAcc (I:WRel Γ D ow μ st w) {k gb:Nat}{st':List BX} (aw:(k=st.length/\st'=st++[.acc 0])\/(∃ g,st[k]?=some (.acc g)/\st'=st.set k (.acc (g+1)))) {w':World}{D':Dom}
 (ah:(w.heap.size<=gb/\gb<w'.heap.size)\/ow gb=some k) (H:∀ b,b<w.heap.size->b≠gb->w'.heap[b]?=w.heap[b]?) (aq:w.heap.size<=w'.heap.size)
 (ao:w'.os=w.os) (ar:w'.tape=w.tape) (ap:w'.output=w.output) (hD:∀ b o,D b o->D' b o) (hN:∀ b o,D' b o->D b o\/b=gb) (an:Keeps D w w'):
 WRel Γ D' (upd ow gb (some k)) μ st' w'/\Moves D w ow μ st D' w' (upd ow gb (some k)) μ st':=by
 have ab:∀ y,st[k]?=some y->∃ g,y=.acc g:=by grind
 have ad:∀ {j:Nat}{y:BX},st[j]?=some y->j≠k->st'[j]?=some y:=by grind
 have aa:∀ {j:Nat}{y:BX},st'[j]?=some y->j≠k->st[j]?=some y:=by grind
 have ai:∃ g1,st'[k]?=some (.acc g1)/\∀ g,st[k]?=some (.acc g)->g<g1:=by grind
 have au:st.length<=st'.length/\k<st'.length:=by grind
 have O:∀ {j b:Nat},ow b=some j->j≠k->b≠gb:=by
  intro j b Z M e;subst e;rcases ah with h | h
  ·have:=(I.owlt b j Z).1;omega
  grind
 have ag:Γ.B<=gb\/ow gb=some k:=ah.imp (λh=>by have:=I.hs;omega) id
 have av:gb<w'.heap.size:=by
  rcases ah with h | h
  ·exact h.2
  ·have:=(I.owlt gb k h).1;omega
 have m:Moves D w ow μ st D' w' (upd ow gb (some k)) μ st':=by
  refine ⟨hD,an,λj T x e=>⟨rfl,?_⟩,λj K E es e=>⟨rfl,?_⟩,λj b e hs=>⟨rfl,b,?_,rfl⟩,λj E g xs e=>?_,λj g e=>?_⟩
  ·grind
  ·grind
  ·have M:j≠k:=λM=>by subst M;obtain ⟨g,hg⟩:=ab _ e;subst hg;exact hs rfl
   exact ad e M
  ·have M:j≠k:=λM=>by grind
   refine ⟨g,xs,ad e M,Nat.le_refl _,λ_=>⟨rfl,λak hc aj=>?_⟩⟩;have J:=O aj M;exact ⟨rfl,by grind [aam],ak,(H _ (I.owlt _ j aj).1 J).trans hc,rfl⟩
  ·by_cases M:j=k
   ·grind
   ·refine ⟨g,ad e M,Nat.le_refl _,λ_ b Z=>?_⟩;have J:=O Z M;refine ⟨H b (I.owlt b j Z).1 J,by grind [aam],λo d=>(hN b o d).resolve_right J⟩
 have af:∀ j,j<Γ.np->∃ b,st'[j]?=some b/\b.kind=Γ.K0 j:=by
  intro j M;obtain ⟨x,hx,p1⟩:=I.par j M;by_cases am:j=k
  ·subst am;obtain ⟨g,hg⟩:=ab _ hx;subst hg;obtain ⟨g1,h1,_⟩:=ai;exact ⟨_,h1,p1⟩
  grind
 refine ⟨⟨λj T x e=>?_,λj K E es e=>?_,λj x e=>?_,λb j Z=>?_,λb o d=>?_,ao.trans I.os,ar.trans I.tape,ap.trans I.output,Nat.le_trans I.hs aq,λb J hn=>?_,λb o d=>hD b o (I.dom0 b o d),λb o d=>?_,λb j Z J=>?_,Nat.le_trans I.np au.1,I.mu0,af,λb j y Z e hy o d=>?_,I.keep0.trans m.keeps I.dom0,I.arr0_moves m af⟩,m⟩
 ·have M:j≠k:=λM=>by grind
  obtain ⟨c,T1,q1,q2,q3,q4,q5⟩:=I.box j T x (aa e M);have J:=O q3 M;exact BoxRep.mono ⟨c,T1,q1,q2,q3,q4,q5⟩ m rfl (H _ (I.owlt _ _ q3).1 J) (by grind [aam]) (λo d=>q4 o ((hN _ o d).resolve_right J))
 ·have M:j≠k:=λM=>by grind
  obtain ⟨ents,clock,kc,vc,q1,q2,q3⟩:=I.map j K E es (aa e M);have J:=O q2 M;exact OMapRep.mono ⟨ents,clock,kc,vc,q1,q2,q3⟩ m.dom m.keeps rfl (H _ (I.owlt _ _ q2).1 J) (by grind [aam]) (λo d=>q3.1 o ((hN _ o d).resolve_right J))
 ·by_cases M:j=k
  ·subst M;obtain ⟨g1,h1,_⟩:=ai;rw [h1] at e;cases e;trivial
  ·refine (I.obj j x (aa e M)).mono m.dom m.keeps (λ_=>rfl) (λc oc=>?_);have J:=O oc M;exact ⟨H _ (I.owlt _ _ oc).1 J,by grind [aam],λo d=>(hN _ o d).resolve_right J⟩
 ·by_cases J:b=gb
  ·grind [aai]
  ·rw [aam _ _ J] at Z;have:=I.owlt b j Z;grind
 ·rcases hN b o d with d | d
  ·have:=I.dlt b o d;omega
  grind
 ·have ae:b≠gb:=λal=>by
   subst al;rcases ag with h | h
   ·omega
   ·have:=I.owN b k h J;grind
  exact (H b (by have:=I.hs;omega) ae).trans (I.old b J hn)
 ·rcases hN b o d with d | d
  ·exact I.domN b o d
  ·subst d;rcases ag with h | h
   ·grind
   ·by_cases J:b<Γ.B
    ·exact Or.inr (Or.inr (by rw [I.owN b k h J];simp))
    grind
 ·by_cases ae:b=gb
  ·subst ae;rw [aai] at Z;cases Z;rcases ag with h | h
   ·omega
   ·exact I.owN b k h J
  ·rw [aam _ _ ae] at Z;exact I.owN b j Z J
 ·by_cases M:j=k
  ·grind
  ·by_cases J:b=gb
   ·rw [J,aai] at Z;grind
   ·rw [aam _ _ J] at Z;exact I.lone b j y Z (aa e M) hy o ((hN b o d).resolve_right J)
theorem WRel.growArr (J:WRel Γ D ow μ st w) {k g gb:Nat}{Z:TypeId}{xs xs':List PV} (hk:st[k]?=some (.arr Z g xs)) {w':World}{ab:Array Value}
 (ae:(w.heap.size<=gb/\gb<w'.heap.size)\/ow gb=some k) (H:∀ b,b<w.heap.size->b≠gb->w'.heap[b]?=w.heap[b]?) (ak:w.heap.size<=w'.heap.size)
 (aq:w'.os=w.os) (au:w'.tape=w.tape) (ar:w'.output=w.output) (hh:w'.heap[gb]?=some (.cells ab Z (0,0))) (an:xs'.length*Γ.P.cellsOf Z<=ab.size)
 (hr:∀ (i:Nat) (x:PV),xs'[i]?=some x->Rep Γ.P D w Z x ((ab.toList.drop (i*Γ.P.cellsOf Z)).take (Γ.P.cellsOf Z))):
 (st.set k (.arr Z (g+1) xs'))[k]?=some (.arr Z (g+1) xs')/\WRel Γ D (upd ow gb (some k)) (upd μ k gb) (st.set k (.arr Z (g+1) xs')) w'/\Moves D w ow μ st D w' (upd ow gb (some k)) (upd μ k gb) (st.set k (.arr Z (g+1) xs')):=by
 have aw:=(Bg.1 hk).1
 have ao:∀ o,¬D gb o:=by
  intro o d;rcases ae with h | h
  ·have:=J.dlt _ _ d;omega
  ·exact J.lone gb k _ h hk (by simp) o d
 have ap:Keeps D w w':=Keeps.of_heap λb o d=>H b (J.dlt b o d) (λe=>by grind)
 have ah:∀ {j:Nat}{y:BX},st[j]?=some y->j≠k->(st.set k (.arr Z (g+1) xs'))[j]?=some y:=λe I=>by grind
 have aa:∀ {j:Nat}{y:BX},(st.set k (.arr Z (g+1) xs'))[j]?=some y->j≠k->st[j]?=some y:=λe I=>by rwa [Aq (by omega)] at e
 have ad:(st.set k (.arr Z (g+1) xs'))[k]?=some (.arr Z (g+1) xs'):=by grind
 have M:∀ {j b:Nat},ow b=some j->j≠k->b≠gb:=by
  intro j b ob I e;subst e;rcases ae with h | h
  ·have:=(J.owlt b j ob).1;omega
  grind
 have av:gb<w'.heap.size:=by grind
 have mu:∀ {j:Nat},j≠k->upd μ k gb j=μ j:=λI=>aam _ _ I
 have m:Moves D w ow μ st D w' (upd ow gb (some k)) (upd μ k gb) (st.set k (.arr Z (g+1) xs')):=by
  refine ⟨λ_ _ d=>d,ap,λj T x e=>?_,λj K E es e=>?_,λj b e hs=>?_,λj E g' ys e=>?_,λj g' e=>?_⟩
  ·grind
  ·grind
  ·have I:j≠k:=λI=>by subst I;rw [hk] at e;cases e;exact hs rfl
   grind
  ·by_cases I:j=k
   ·grind
   ·refine ⟨g',ys,ah e I,Nat.le_refl _,λ_=>⟨rfl,λal hc aj=>?_⟩⟩;have O:=M aj I;exact ⟨mu I,by grind [aam],al,(H _ (J.owlt _ j aj).1 O).trans hc,rfl⟩
  ·have I:j≠k:=λI=>by grind
   refine ⟨g',ah e I,Nat.le_refl _,λ_ b ob=>?_⟩;have O:=M ob I;exact ⟨H b (J.owlt b j ob).1 O,by grind [aam],λo d=>d⟩
 have ai:∀ j,j<Γ.np->∃ b,(st.set k (.arr Z (g+1) xs'))[j]?=some b/\b.kind=Γ.K0 j:=by
  intro j I;obtain ⟨x,hx,p1⟩:=J.par j I;by_cases af:j=k
  ·subst af;rw [hk] at hx;cases hx;exact ⟨_,ad,p1⟩
  grind
 refine ⟨ad,⟨λj T x e=>?_,λj K E es e=>?_,λj x e=>?_,λb j ob=>?_,λb o d=>A4 (J.dlt b o d) ak,aq.trans J.os,au.trans J.tape,ar.trans J.output,Nat.le_trans J.hs ak,λb O hn=>?_,J.dom0,J.domN,λb j ob O=>?_,by grind,λj I hK=>?_,ai,λb j y ob e hy o d=>?_,J.keep0.trans m.keeps J.dom0,J.arr0_moves m ai⟩,m⟩
 ·have I:j≠k:=λI=>by grind
  obtain ⟨c,T1,q1,q2,q3,q4,q5⟩:=J.box j T x (aa e I);have O:=M q3 I;exact BoxRep.mono ⟨c,T1,q1,q2,q3,q4,q5⟩ m (mu I) (H _ (J.owlt _ _ q3).1 O) (by grind [aam]) q4
 ·have I:j≠k:=λI=>by grind
  obtain ⟨ents,clock,kc,vc,q1,q2,q3⟩:=J.map j K E es (aa e I);have O:=M q2 I;exact OMapRep.mono ⟨ents,clock,kc,vc,q1,q2,q3⟩ m.dom m.keeps (mu I) (H _ (J.owlt _ _ q2).1 O) (by grind [aam]) q3.1
 ·by_cases I:j=k
  ·subst I;rw [ad] at e;cases e;exact Or.inr ⟨ab,by grind [aai],by rw [aai,aai],by grind [aai],an,λi x hx=>(hr i x hx).mono m.dom m.keeps⟩
  ·refine (J.obj j x (aa e I)).mono m.dom m.keeps (λ_=>mu I) (λc oc=>?_);have O:=M oc I;exact ⟨H _ (J.owlt _ _ oc).1 O,by grind [aam],λo d=>d⟩
 ·by_cases O:b=gb
  ·grind [aai]
  ·rw [aam _ _ O] at ob;have:=J.owlt b j ob;grind
 ·have ag:b≠gb:=λam=>by
   subst am;rcases ae with h | h
   ·have:=J.hs;omega
   ·have:=J.owN b k h O;grind
  exact (H b (by have:=J.hs;omega) ag).trans (J.old b O hn)
 ·by_cases ag:b=gb
  ·subst ag;rw [aai] at ob;cases ob;rcases ae with h | h
   ·have:=J.hs;omega
   ·exact J.owN b k h O
  ·rw [aam _ _ ag] at ob;exact J.owN b j ob O
 ·by_cases af:j=k
  ·subst af;obtain ⟨x,hx,p1⟩:=J.par j I;rw [hk] at hx;cases hx;exact absurd p1.symm (hK Z)
  ·rw [mu af];exact J.mu0 j I hK
 ·by_cases I:j=k
  ·subst I;by_cases O:b=gb
   ·grind
   ·rw [aam _ _ O] at ob;exact J.lone b j _ ob hk (by simp) o d
  ·by_cases O:b=gb
   ·grind
   ·rw [aam _ _ O] at ob;exact J.lone b j y ob (aa e I) hy o d
theorem WRel.arrBump (h:WRel Γ D ow μ st w) {k g:Nat}{J:TypeId}{xs:List PV} (Z:st[k]?=some (.arr J g xs)):
 (st.set k (.arr J (g+1) xs))[k]?=some (.arr J (g+1) xs)/\WRel Γ D ow μ (st.set k (.arr J (g+1) xs)) w/\Moves D w ow μ st D w ow μ (st.set k (.arr J (g+1) xs)):=by
 have ad:=(Bg.1 Z).1
 have aa:∀ {j:Nat}{y:BX},st[j]?=some y->j≠k->(st.set k (.arr J (g+1) xs))[j]?=some y:=λe H=>by grind
 have I:∀ {j:Nat}{y:BX},(st.set k (.arr J (g+1) xs))[j]?=some y->j≠k->st[j]?=some y:=λe H=>by rwa [Aq (by omega)] at e
 have M:(st.set k (.arr J (g+1) xs))[k]?=some (.arr J (g+1) xs):=by grind
 have m:Moves D w ow μ st D w ow μ (st.set k (.arr J (g+1) xs)):=by
  refine ⟨λ_ _ d=>d,Keeps.refl _ _,λj T x e=>?_,λj K E es e=>?_,λj b e hs=>?_,λj E g' ys e=>?_,λj g' e=>?_⟩
  ·grind
  ·grind
  ·have H:j≠k:=λH=>by subst H;rw [Z] at e;cases e;exact hs rfl
   grind
  ·by_cases H:j=k
   ·grind
   ·exact ⟨g',ys,aa e H,Nat.le_refl _,λ_=>⟨rfl,ArrKeep.refl _ _ _ _ _⟩⟩
  grind
 have O:∀ j,j<Γ.np->∃ b,(st.set k (.arr J (g+1) xs))[j]?=some b/\b.kind=Γ.K0 j:=by
  intro j H;obtain ⟨x,hx,p1⟩:=h.par j H;by_cases ab:j=k
  ·subst ab;rw [Z] at hx;cases hx;exact ⟨_,M,p1⟩
  grind
 refine ⟨M,⟨λj T s e=>?_,λj K E es e=>?_,λj b e=>?_,λb j ob=>by simpa using h.owlt b j ob,h.dlt,h.os,h.tape,h.output,h.hs,h.old,h.dom0,h.domN,h.owN,by grind,h.mu0,O,λb j y ob e hy o d=>?_,h.keep0.trans m.keeps h.dom0,h.arr0_moves m O⟩,m⟩
 ·have H:j≠k:=λH=>by grind
  obtain ⟨c,T1,q1,q2,q3,q4,q5⟩:=h.box j T s (I e H);exact ⟨c,T1,q1,q2,q3,q4,q5.mono m⟩
 ·have H:j≠k:=λH=>by grind
  exact h.map j K E es (I e H)
 ·by_cases H:j=k
  ·subst H;rw [M] at e;cases e;have h0:avh Γ.P D w ow μ j J xs:=h.obj j _ Z;exact h0
  ·exact (h.obj j b (I e H)).mono m.dom m.keeps (λ_=>rfl) (λ_ o=>⟨rfl,o,λ_ d=>d⟩)
 ·by_cases H:j=k
  ·subst H;exact h.lone b j _ ob Z (by simp) o d
  ·exact h.lone b j y ob (I e H) hy o d
theorem ahp {E:TypeId}{xs ys:List PV}{o H:List Value} (O:o.length=xs.length*Γ.P.cellsOf E) (Z:H.length=ys.length*Γ.P.cellsOf E)
 (J:∀ (i:Nat) (x:PV),xs[i]?=some x->Rep Γ.P D w E x ((o.drop (i*Γ.P.cellsOf E)).take (Γ.P.cellsOf E)))
 (ry:∀ (i:Nat) (x:PV),ys[i]?=some x->Rep Γ.P D w E x ((H.drop (i*Γ.P.cellsOf E)).take (Γ.P.cellsOf E))):
 ∀ (i:Nat) (x:PV),(xs++ys)[i]?=some x->Rep Γ.P D w E x (((o++H).drop (i*Γ.P.cellsOf E)).take (Γ.P.cellsOf E)):=by
 intro i x I
 by_cases h:i<xs.length
 ·rw [Ax h] at I;have:=J i x I;have M:(i+1)*Γ.P.cellsOf E<=xs.length*Γ.P.cellsOf E:=Aw _ (by omega);grind
 grind [List.getElem?_append_right,Nat.mul_le_mul_right,Nat.sub_mul,List.drop_append,List.drop_eq_nil_of_le,Nat.add_sub_cancel_left]
theorem ajz {E:TypeId}{ys:List PV}{h:List Value} (O:h.length=ys.length*Γ.P.cellsOf E) (o:0<Γ.P.cellsOf E)
 (J:∀ (i:Nat) (x:PV),ys[i]?=some x->Rep Γ.P D w E x ((h.drop (i*Γ.P.cellsOf E)).take (Γ.P.cellsOf E))):∀ c,c∈h->c.oneCell'=true:=by
 intro c I
 obtain ⟨j,M,rfl⟩:=List.mem_iff_getElem.1 I
 have H:j / Γ.P.cellsOf E<ys.length:=by rw [Nat.div_lt_iff_lt_mul o];omega
 refine (J _ _ (As H)).oneCell _ (List.mem_iff_getElem?.2 ⟨j%Γ.P.cellsOf E,?_⟩)
 grind [List.getElem?_take_of_lt,Nat.mod_lt,Nat.div_add_mod,Nat.mul_comm,List.getElem?_eq_getElem]
theorem apf (hw:WRel Γ D ow μ st w) {k gb:Nat}{st':List BX} (ah:(k=st.length/\st'=st++[.acc 0])\/(∃ g,st[k]?=some (.acc g)/\st'=st.set k (.acc (g+1)))) {w':World}
 (ad:(w.heap.size<=gb/\gb<w'.heap.size)\/ow gb=some k) (J:∀ b,b<w.heap.size->b≠gb->w'.heap[b]?=w.heap[b]?) (ai:w.heap.size<=w'.heap.size)
 (af:w'.os=w.os) (ak:w'.tape=w.tape) (ag:w'.output=w.output) (ae:Keeps D w w')
 {E:TypeId}{zs:List PV}{L:List Value}{H:Array Value}{cap:Nat} (hL:L.length=zs.length*Γ.P.cellsOf E) (I:w'.heap[gb]?=some (.cells H E (0,0))) (aj:H.toList.take L.length=L) (M:zs.length<=cap) (O:cap<=maxLen) (Z:H.size=cap*Γ.P.cellsOf E)
 (aa:∀ o,zs.length*Γ.P.cellsOf E<=o->¬D gb o)
 (hr:∀ (i:Nat) (x:PV),zs[i]?=some x->Rep Γ.P D w E x ((L.drop (i*Γ.P.cellsOf E)).take (Γ.P.cellsOf E))) (g1:Nat) (ab:st'[k]?=some (.acc g1)):
 OpRes Γ D ow μ st w (.ok (.value (.slice (some ⟨gb,0,none⟩) zs.length cap)) w') (.acc k g1 E zs) st':=by
 obtain ⟨u1,u2⟩:=hw.setAcc ah (D':=λb o=>D b o\/(b=gb/\o<L.length)) ad J ai af ak ag (λb o d=>Or.inl d) (λb o d=>d.imp id (λh=>h.1)) ae
 refine ⟨_,_,_,_,_,Or.inl rfl,u1,u2,.acc ?_ ab (Nat.le_refl _) (λ_=>Or.inr ⟨gb,cap,H,rfl,I,M,O,Z,aai _ _ _,λo ho d=>?_⟩)⟩
 ·refine .mk M hL (λi x hx=>(hr i x hx).mono u2.dom u2.keeps) (λj v hj=>?_);have al:=(Bg.1 hj).1;refine ⟨Or.inr ⟨rfl,by omega⟩,?_⟩;have:H.toList[j]?=some v:=by
   grind
  simp only [Nat.zero_add,World.cell?,I];simpa using this
 grind
theorem abm {P:Program} (w:World) (t ty e:TypeId) (i:TypeInfo) (M:P.underlying t=some (.slice e)) (I:P.info? e=some i) (a:Option Addr) (n c:Nat) (Z:n<=c) (v:Value)
 (O:v=.slice none 0 0\/∃ b o,v=.slice (some b) 0 o) (h:a=none->n=0/\c=0):(Builtin.append_ #[t,t] ty #[.slice a n c,v]).run P w=.ok (.slice a n c) w:=by
 have H:∀ u,(Builtin.firstCells i.size 0 v).run P u=.ok #[] u:=by
  intro u;rcases O with rfl | ⟨b,o,rfl⟩
  ·simp [Builtin.firstCells]
  ·simp [Builtin.firstCells,loadCells,loadCellsFrom]
 have J:∀ u,(Builtin.lenOf v).run P u=.ok 0 u:=by intro u;rcases O with rfl | ⟨b,o,rfl⟩<;>simp [Builtin.lenOf]
 cases a with
 | none=>
  obtain ⟨rfl,rfl⟩:=h rfl
  simp [Builtin.append_,run_underlying M,sizeOf,typeInfo,I,J,H]
 | some b=>simp [Builtin.append_,run_underlying M,sizeOf,typeInfo,I,J,H,Z,storeCells]
end
end Go.Ab
namespace Go.Ab
open Go
section
variable {Γ:Ctx}{D:Dom}{ow:Own}{μ:Nat->Nat}{st:List BX}{w:World}
theorem WRel.accNil (h:WRel Γ D ow μ st w):WRel Γ D ow μ (st++[.acc 0]) w/\Moves D w ow μ st D w ow μ (st++[.acc 0]):=by
 have aa:∀ {k:Nat}{y:BX},st[k]?=some y->k<st.length:=λe=>(Bg.1 e).1;have I:∀ {k:Nat}{y:BX},st[k]?=some y->(st++[BX.acc 0])[k]?=some y:=λ{k y} e=>by grind
 have H:∀ {k:Nat}{y:BX},(st++[BX.acc 0])[k]?=some y->(∀ g,y≠.acc g)->st[k]?=some y:=by grind
 have m:Moves D w ow μ st D w ow μ (st++[.acc 0]):=
  ⟨λ_ _ d=>d,Keeps.refl _ _,λk _ _ e=>⟨rfl,_,I e⟩,λk _ _ _ e=>⟨rfl,_,I e⟩,λk _ e _=>⟨rfl,_,I e,rfl⟩,λk _ _ _ e=>⟨_,_,I e,Nat.le_refl _,λ_=>⟨rfl,ArrKeep.refl _ _ _ _ _⟩⟩,λk g0 e=>⟨_,I e,Nat.le_refl _,λ_ b M=>⟨rfl,M,λ_ d=>d⟩⟩⟩
 have J:∀ k,k<Γ.np->∃ b,(st++[BX.acc 0])[k]?=some b/\b.kind=Γ.K0 k:=λk hk=>by obtain ⟨s,hs,h1⟩:=h.par k hk;grind
 refine ⟨⟨λk T s e=>?_,λk K E es e=>?_,λk b e=>?_,λb k M=>⟨(h.owlt b k M).1,by have:=(h.owlt b k M).2;simp;omega⟩,h.dlt,h.os,h.tape,h.output,h.hs,h.old,h.dom0,h.domN,h.owN,by grind,h.mu0,J,λb k y M e O o d=>?_,h.keep0.trans m.keeps h.dom0,h.arr0_moves m J⟩,m⟩
 ·obtain ⟨c,Z,q1,q2,q3,q4,q5⟩:=h.box k T s (H e (by simp));exact ⟨c,Z,q1,q2,q3,q4,q5.mono m⟩
 ·exact h.map k K E es (H e (by simp))
 ·cases b with
  | acc g=>trivial
  | _=>exact (h.obj k _ (H e (by simp))).mono m.dom m.keeps (λ_=>rfl) (λ_ o=>⟨rfl,o,λ_ d=>d⟩)
 ·exact h.lone b k y M (H e O) O o d
theorem WRel.accBump (h:WRel Γ D ow μ st w) {k g:Nat} (Z:st[k]?=some (.acc g)):WRel Γ D ow μ (st.set k (.acc (g+1))) w/\Moves D w ow μ st D w ow μ (st.set k (.acc (g+1))):=by
 have aa:=(Bg.1 Z).1;have ne:∀ {j:Nat}{y:BX},st[j]?=some y->j≠k->(st.set k (BX.acc (g+1)))[j]?=some y:=λe J=>by grind
 have M:(st.set k (BX.acc (g+1)))[k]?=some (.acc (g+1)):=by grind
 have H:∀ {j:Nat}{y:BX},(st.set k (BX.acc (g+1)))[j]?=some y->(∀ g,y≠.acc g)->st[j]?=some y:=by grind
 have m:Moves D w ow μ st D w ow μ (st.set k (.acc (g+1))):=by
  refine ⟨λ_ _ d=>d,Keeps.refl _ _,λj T x e=>⟨rfl,?_⟩,λj K E es e=>⟨rfl,?_⟩,λj b e hs=>⟨rfl,b,?_,rfl⟩,λj E g' xs e=>?_,λj g' e=>?_⟩
  ·grind
  ·grind
  ·by_cases J:j=k
   ·subst J;rw [Z] at e;cases e;exact absurd rfl hs
   ·exact ne e J
  ·by_cases J:j=k
   ·grind
   ·exact ⟨g',xs,ne e J,Nat.le_refl _,λ_=>⟨rfl,ArrKeep.refl _ _ _ _ _⟩⟩
  grind
 have I:∀ j,j<Γ.np->∃ b,(st.set k (BX.acc (g+1)))[j]?=some b/\b.kind=Γ.K0 j:=by
  intro j J;obtain ⟨x,hx,p1⟩:=h.par j J;by_cases O:j=k
  ·subst O;rw [Z] at hx;cases hx;exact ⟨_,M,p1⟩
  grind
 refine ⟨⟨λj T s e=>?_,λj K E es e=>?_,λj b e=>?_,λb j ob=>by simpa using h.owlt b j ob,h.dlt,h.os,h.tape,h.output,h.hs,h.old,h.dom0,h.domN,h.owN,by grind,h.mu0,I,λb j y ob e hy o d=>h.lone b j y ob (H e hy) hy o d,h.keep0.trans m.keeps h.dom0,h.arr0_moves m I⟩,m⟩
 ·obtain ⟨c,T1,q1,q2,q3,q4,q5⟩:=h.box j T s (H e (by simp));exact ⟨c,T1,q1,q2,q3,q4,q5.mono m⟩
 ·exact h.map j K E es (H e (by simp))
 ·cases b with
  | acc g=>trivial
  | _=>exact (h.obj j _ (H e (by simp))).mono m.dom m.keeps (λ_=>rfl) (λ_ o=>⟨rfl,o,λ_ d=>d⟩)
theorem aj8 (O:WRel Γ D ow μ st w) {k:Nat}{st':List BX} (M:(k=st.length/\st'=st++[.acc 0])\/(∃ g,st[k]?=some (.acc g)/\st'=st.set k (.acc (g+1)))) (I:Nat) (J:st'[k]?=some (.acc I))
 {E:TypeId}{z:Value} (hz:z.cells.size=Γ.P.cellsOf E) {zs:List PV}{L:List Value}{n cap:Nat} (hn:n=zs.length) (Z:L.length=zs.length*Γ.P.cellsOf E) (h:zs.length<=cap) (H:cap<=maxLen)
 (hr:∀ (i:Nat) (x:PV),zs[i]?=some x->Rep Γ.P D w E x ((L.drop (i*Γ.P.cellsOf E)).take (Γ.P.cellsOf E))):
 OpRes Γ D ow μ st w (.ok (.value (.slice (some ⟨w.heap.size,0,none⟩) n cap)) (w.drew.alloc (.cells (L.toArray++Builtin.zeroCells z.cells (cap-n)) E))) (.acc k I E zs) st':=by
 subst hn
 refine apf O M (w':=w.drew.alloc (.cells (L.toArray++Builtin.zeroCells z.cells (cap-zs.length)) E)) (gb:=w.heap.size) (Or.inl ⟨Nat.le_refl _,by simp⟩) (λb hb _=>aa6 w.drew _ b hb) (by simp) rfl rfl rfl
  (Keeps.of_heap λb o d=>aa6 w.drew _ b (O.dlt b o d)) Z (aas w.drew _) ?_ h H ?_ (λo _ d=>by have:=O.dlt _ _ d;omega) hr I J
 ·simp
 ·simp only [Array.size_append,List.size_toArray,size_zeroCells,hz,Z,<-Nat.add_mul];congr 1;omega
theorem aoi (hw:WRel Γ D ow μ st w) (T ty E:TypeId) {J:TypeInfo}{z:Value} (hT:Γ.P.underlying T=some (.slice E)) (hi:Γ.P.info? E=some J) (av:J.zero=some z) (ae:J.size=Γ.P.cellsOf E) (aC:z.cells.size=Γ.P.cellsOf E) (aH:0<Γ.P.cellsOf E)
 (ab:∀ n,n<=aaf->n*J.bytes<=140737488355328) {k g:Nat}{xs ys:List PV} (hk:st[k]?=some (.arr E g xs)) {xv yv:Value} (hx:SRep Γ.P D w ow μ st (.arr k g E) xv)
 (ak:(ys=[]/\(yv=.slice none 0 0\/∃ b c',yv=.slice (some b) 0 c'))\/
  ∃ (b off cap:Nat) (L:List Value),yv=.slice (some ⟨b,off,none⟩) ys.length cap/\0<ys.length/\L.length=ys.length*Γ.P.cellsOf E/\(∀ (i:Nat) (x:PV),ys[i]?=some x->Rep Γ.P D w E x ((L.drop (i*Γ.P.cellsOf E)).take (Γ.P.cellsOf E)))/\
   (∀ j u,L[j]?=some u->w.cell? ((⟨b,off,none⟩:Addr).add j)=some u)) (hb:xs.length+ys.length<=aaf):
 ∃ u w',(Builtin.append_ #[T,T] ty #[xv,yv]).run Γ.P w=.ok u w'/\OpRes Γ D ow μ st w (.ok (.value u) w') (.arr k (g+1) E) (st.set k (.arr E (g+1) (xs++ys))):=by
 have O:(xs++ys).length=xs.length+ys.length:=by simp
 have au:xs.length+ys.length<=maxLen:=by unfold aaf at hb;unfold maxLen;omega
 cases hx with
 | arrOld aa ax=>rw [hk] at aa;cases aa;omega
 | @arrNil _ _ _ a aa=>
  rw [hk] at aa;cases aa
  simp only [Ba,Ao,Nat.zero_add] at*
  rcases ak with ⟨rfl,hv⟩ | ⟨b,off,cap,L,rfl,aq,hL,af,I⟩
  ·obtain ⟨u0,u1,u2⟩:=hw.arrBump hk;refine ⟨.slice a 0 0,w,abm w T ty E J hT hi a 0 0 (by omega) yv hv (λ_=>⟨rfl,rfl⟩),?_⟩;exact ⟨_,_,_,_,_,Or.inl rfl,u1,u2,.arrNil u0⟩
  ·have aD:ys.length*J.bytes<=281474976710656:=by have:=ab _ hb;omega
   have fin:∀ H,ys.length<=H->H<=maxLen->OpRes Γ D ow μ st w (.ok (.value (.slice (some ⟨w.heap.size,0,none⟩) ys.length H)) (w.drew.alloc (.cells (L.toArray++Builtin.zeroCells z.cells (H - ys.length)) E))) (.arr k (g+1) E) (st.set k (.arr E (g+1) ys)):=by
    intro H aj aw;have ad:(L.toArray++Builtin.zeroCells z.cells (H - ys.length)).size=H*Γ.P.cellsOf E:=by simp only [Array.size_append,List.size_toArray,size_zeroCells,aC,hL,<-Nat.add_mul];congr 1;omega
    have ai:∀ (i:Nat) (x:PV),ys[i]?=some x->Rep Γ.P D w E x (((L.toArray++Builtin.zeroCells z.cells (H - ys.length)).toList.drop (i*Γ.P.cellsOf E)).take (Γ.P.cellsOf E)):=by intro i x hx;have h2:(i+1)*Γ.P.cellsOf E<=ys.length*Γ.P.cellsOf E:=Aw _ (by have:=(Bg.1 hx).1;omega);rw [Nat.add_mul] at h2;simp only [Array.toList_append,List.toList_toArray];rw [List.drop_append_of_le_length (by omega),List.take_append_of_le_length (by rw [Be];omega)];exact af i x hx
    obtain ⟨u0,u1,u2⟩:=hw.growArr (gb:=w.heap.size) (xs':=ys) hk (w':=w.drew.alloc (.cells (L.toArray++Builtin.zeroCells z.cells (H - ys.length)) E)) (Or.inl ⟨Nat.le_refl _,by simp⟩) (λb hb _=>aa6 w.drew _ b hb) (by simp) rfl rfl rfl (aas w.drew _) (by rw [ad];exact Aw _ aj) ai;refine ⟨_,_,_,_,_,Or.inl rfl,u1,u2,?_⟩;have:=SRep.arr (P:=Γ.P) (D:=D) (w:=w.drew.alloc (.cells (L.toArray++Builtin.zeroCells z.cells (H - ys.length)) E)) (ow:=upd ow w.heap.size (some k)) (μ:=upd μ k w.heap.size) (cap:=H) u0 aj aw (by rw [aai];exact aas w.drew _) (by rw [aai,aai]) ad.symm;rwa [aai] at this
   cases a with
   | none=>have hr:=run_append_nil (P:=Γ.P) w T ty E J z hT hi av ⟨b,off,none⟩ ys.length cap L (by rw [ae];exact hL) I aq (by unfold aaf at hb;omega) aD;exact ⟨_,_,hr,fin _ (grownCap_ge _ _ _ _) (grownCap_le_maxLen _ _ _ _ au)⟩
   | some a=>have hr:=run_append_grow (P:=Γ.P) w T ty E J z hT hi av a 0 0 [] (by simp) (λj u hj=>by simp at hj) ⟨b,off,none⟩ ys.length cap L (by rw [ae];exact hL) I (by omega) (by unfold aaf at hb;omega) (growslice_fits (by omega) (ab _ (by omega)));simp only [Nat.zero_add] at hr;refine ⟨_,_,hr,?_⟩;rw [show (#[]:Array Value)++L.toArray=L.toArray by simp];exact fin _ (by have:=grownCap_ge;exact this _ _ _ _) (grownCap_le_maxLen _ _ _ _ au)
 | @arr _ _ ag _ aK o aa am ap M az ad=>
  rw [hk] at aa;cases aa
  have aA:xs.length*Γ.P.cellsOf E<=o.size/\∀ (i:Nat) (x:PV),xs[i]?=some x->Rep Γ.P D w E x ((o.toList.drop (i*Γ.P.cellsOf E)).take (Γ.P.cellsOf E)):=by
   rcases hw.obj k _ hk with h0 | ⟨aJ,q1,q2,q3,q4,q5⟩
   ·subst h0;exact ⟨by simp,λi x hi=>by simp at hi⟩
   ·rw [M] at q1;cases q1;exact ⟨q4,q5⟩
  rcases ak with ⟨rfl,hv⟩ | ⟨b,off,cap,L,rfl,aq,hL,af,I⟩
  ·obtain ⟨u0,u1,u2⟩:=hw.arrBump hk;refine ⟨_,w,abm w T ty E J hT hi _ _ _ am yv hv (λh=>by cases h),?_⟩;rw [List.append_nil];exact ⟨_,_,_,_,_,Or.inl rfl,u1,u2,.arr u0 am ap M az ad⟩
  ·have ah:(o.toList.take (xs.length*Γ.P.cellsOf E)).length=xs.length*Γ.P.cellsOf E:=by simp;omega
   have aI:∀ (i:Nat) (x:PV),xs[i]?=some x->Rep Γ.P D w E x (((o.toList.take (xs.length*Γ.P.cellsOf E)).drop (i*Γ.P.cellsOf E)).take (Γ.P.cellsOf E)):=by intro i x hi;have h2:(i+1)*Γ.P.cellsOf E<=xs.length*Γ.P.cellsOf E:=Aw _ (by have:=(Bg.1 hi).1;omega);rw [Nat.add_mul] at h2;rw [List.drop_take,List.take_take,Nat.min_eq_left (by omega)];exact aA.2 i x hi
   have al:=ahp ah hL aI af;have aG:∀ j u,(o.toList.take (xs.length*Γ.P.cellsOf E))[j]?=some u->w.cell? ((⟨μ k,0,none⟩:Addr).add j)=some u:=by intro j u hj;have ax:=(Bg.1 hj).1;rw [ah] at ax;rw [List.getElem?_take_of_lt ax] at hj;rw [acb,Nat.zero_add];simp only [World.cell?,M];simpa using hj
   by_cases Z:xs.length+ys.length<=ag
   ·have ao:xs.length*J.size+L.length<=o.size:=by rw [ae,hL,<-ad,<-Nat.add_mul];exact Aw _ Z
    have hr:=run_append_room (P:=Γ.P) w T ty E J hT hi (μ k) xs.length ag o M ⟨b,off,none⟩ ys.length cap L (by rw [ae];exact hL) I (ajz hL aH af) Z ao;refine ⟨_,_,hr,?_⟩;rw [ae] at ao ⊢;have aB:(w.setRow (μ k) (o.toList.take (xs.length*Γ.P.cellsOf E)++L++o.toList.drop (xs.length*Γ.P.cellsOf E+L.length)).toArray).heap[μ k]?=some (.cells (o.toList.take (xs.length*Γ.P.cellsOf E)++L++o.toList.drop (xs.length*Γ.P.cellsOf E+L.length)).toArray E (0,0)):=setRow_heap w (μ k) o _ E _ M;have ar:(o.toList.take (xs.length*Γ.P.cellsOf E)++L++o.toList.drop (xs.length*Γ.P.cellsOf E+L.length)).toArray.size=o.size:=by simp;omega
    have ai:∀ (i:Nat) (x:PV),(xs++ys)[i]?=some x->Rep Γ.P D w E x (((o.toList.take (xs.length*Γ.P.cellsOf E)++L++o.toList.drop (xs.length*Γ.P.cellsOf E+L.length)).toArray.toList.drop (i*Γ.P.cellsOf E)).take (Γ.P.cellsOf E)):=by intro i x hx;have h2:(i+1)*Γ.P.cellsOf E<=(xs++ys).length*Γ.P.cellsOf E:=Aw _ (by have:=(Bg.1 hx).1;omega);rw [Nat.add_mul,O,Nat.add_mul] at h2;simp only;rw [List.drop_append_of_le_length (by simp only [Ak,ah,hL];omega),List.take_append_of_le_length (by simp only [Be,Ak,ah,hL];omega)];exact al i x hx
    obtain ⟨u0,u1,u2⟩:=hw.growArr (gb:=μ k) (xs':=xs++ys) hk (Or.inr az) (λb' _ aF=>setRow_other w (μ k) b' _ aF) (by simp) rfl rfl rfl aB (by rw [ar,O,<-ad];exact Aw _ Z) ai;refine ⟨_,_,_,_,_,Or.inl rfl,u1,u2,?_⟩;rw [<-O];have:=SRep.arr (P:=Γ.P) (D:=D) (ow:=upd ow (μ k) (some k)) (μ:=upd μ k (μ k)) (cap:=ag) u0 (by rw [O];exact Z) ap (by rw [aai];exact aB) (by rw [aai,aai]) (by rw [ar];exact ad);rwa [aai] at this
   ·have hr:=run_append_grow (P:=Γ.P) w T ty E J z hT hi av ⟨μ k,0,none⟩ xs.length ag _ (by rw [ae];exact ah) aG ⟨b,off,none⟩ ys.length cap L (by rw [ae];exact hL) I (by omega) (by unfold aaf at hb;omega) (growslice_fits (by omega) (ab _ hb));refine ⟨_,_,hr,?_⟩;rw [show (o.toList.take (xs.length*Γ.P.cellsOf E)).toArray++L.toArray=(o.toList.take (xs.length*Γ.P.cellsOf E)++L).toArray by simp];generalize ay:grownCap _ _ _ _=gc;have aj:(xs++ys).length<=gc:=by rw [O,<-ay];exact grownCap_ge _ _ _ _
    have aw:gc<=maxLen:=by rw [<-ay];exact grownCap_le_maxLen _ _ _ _ au
    rw [<-O];have aE:(o.toList.take (xs.length*Γ.P.cellsOf E)++L).length=(xs++ys).length*Γ.P.cellsOf E:=by rw [Ak,ah,hL,O,Nat.add_mul]
    have an:((o.toList.take (xs.length*Γ.P.cellsOf E)++L).toArray++Builtin.zeroCells z.cells (gc-(xs++ys).length)).size=gc*Γ.P.cellsOf E:=by simp only [Array.size_append,List.size_toArray,size_zeroCells,aC,aE,<-Nat.add_mul];congr 1;omega
    have ai:∀ (i:Nat) (x:PV),(xs++ys)[i]?=some x->Rep Γ.P D w E x ((((o.toList.take (xs.length*Γ.P.cellsOf E)++L).toArray++Builtin.zeroCells z.cells (gc-(xs++ys).length)).toList.drop (i*Γ.P.cellsOf E)).take (Γ.P.cellsOf E)):=by intro i x hx;have h2:(i+1)*Γ.P.cellsOf E<=(xs++ys).length*Γ.P.cellsOf E:=Aw _ (by have:=(Bg.1 hx).1;omega);rw [Nat.add_mul] at h2;simp only [Array.toList_append,List.toList_toArray];rw [List.drop_append_of_le_length (by omega),List.take_append_of_le_length (by rw [Be];omega)];exact al i x hx
    obtain ⟨u0,u1,u2⟩:=hw.growArr (gb:=w.heap.size) (xs':=xs++ys) hk (w':=w.drew.alloc (.cells ((o.toList.take (xs.length*Γ.P.cellsOf E)++L).toArray++Builtin.zeroCells z.cells (gc-(xs++ys).length)) E)) (Or.inl ⟨Nat.le_refl _,by simp⟩) (λb hb _=>aa6 w.drew _ b hb) (by simp) rfl rfl rfl (aas w.drew _) (by rw [an];exact Aw _ aj) ai;refine ⟨_,_,_,_,_,Or.inl rfl,u1,u2,?_⟩;have:=SRep.arr (P:=Γ.P) (D:=D) (w:=w.drew.alloc (.cells ((o.toList.take (xs.length*Γ.P.cellsOf E)++L).toArray++Builtin.zeroCells z.cells (gc-(xs++ys).length)) E)) (ow:=upd ow w.heap.size (some k)) (μ:=upd μ k w.heap.size) (cap:=gc) u0 aj aw (by rw [aai];exact aas w.drew _) (by rw [aai,aai]) an.symm;rwa [aai] at this
theorem WRel.arrNew (h:WRel Γ D ow μ st w) (E:TypeId):WRel Γ D ow μ (st++[.arr E 0 []]) w/\Moves D w ow μ st D w ow μ (st++[.arr E 0 []]):=by
 have ab:∀ {k:Nat}{y:BX},st[k]?=some y->k<st.length:=λe=>(Bg.1 e).1;have H:∀ {k:Nat}{y:BX},st[k]?=some y->(st++[BX.arr E 0 []])[k]?=some y:=λ{k y} e=>by rw [Ax (ab e)];exact e
 have I:∀ {k:Nat}{y:BX},(st++[BX.arr E 0 []])[k]?=some y->y≠.arr E 0 []->st[k]?=some y:=by
  intro k y e hy;by_cases O:k<st.length
  ·rwa [Ax O] at e
  ·have Z:k=st.length:=by have:=(Bg.1 e).1;simp at this;omega
   subst Z;rw [A3 (Nat.le_refl _)] at e;simp at e;exact absurd e.symm hy
 have m:Moves D w ow μ st D w ow μ (st++[.arr E 0 []]):=
  ⟨λ_ _ d=>d,Keeps.refl _ _,λk _ _ e=>⟨rfl,_,H e⟩,λk _ _ _ e=>⟨rfl,_,H e⟩,λk _ e _=>⟨rfl,_,H e,rfl⟩,λk _ _ _ e=>⟨_,_,H e,Nat.le_refl _,λ_=>⟨rfl,ArrKeep.refl _ _ _ _ _⟩⟩,λk g0 e=>⟨_,H e,Nat.le_refl _,λ_ b M=>⟨rfl,M,λ_ d=>d⟩⟩⟩
 have J:∀ k,k<Γ.np->∃ b,(st++[BX.arr E 0 []])[k]?=some b/\b.kind=Γ.K0 k:=λk O=>by obtain ⟨s,hs,h1⟩:=h.par k O;exact ⟨s,H hs,h1⟩
 refine ⟨⟨λk T s e=>?_,λk K E es e=>?_,λk b e=>?_,λb k M=>⟨(h.owlt b k M).1,by have:=(h.owlt b k M).2;simp;omega⟩,h.dlt,h.os,h.tape,h.output,h.hs,h.old,h.dom0,h.domN,h.owN,by have:=h.np;simp;omega,h.mu0,J,λb k y M e hy o d=>?_,h.keep0.trans m.keeps h.dom0,h.arr0_moves m J⟩,m⟩
 ·obtain ⟨c,T1,q1,q2,q3,q4,q5⟩:=h.box k T s (I e (by simp));exact ⟨c,T1,q1,q2,q3,q4,q5.mono m⟩
 ·exact h.map k K E es (I e (by simp))
 ·by_cases hb:b=.arr E 0 []
  ·subst hb;exact Or.inl rfl
  ·exact (h.obj k _ (I e hb)).mono m.dom m.keeps (λ_=>rfl) (λ_ o=>⟨rfl,o,λ_ d=>d⟩)
 ·have aa:=(h.owlt b k M).2;rw [Ax aa] at e;exact h.lone b k y M e hy o d
theorem a8x (hw:WRel Γ D ow μ st w) {E:TypeId} (ah:0<Γ.P.cellsOf E) {y:SV}{yv:Value}{ys:List PV} (hy:SRep Γ.P D w ow μ st y yv) (hl:a6w st y=some ys) (Z:azs Γ.P E y=true):(ys=[]/\(yv=.slice none 0 0\/∃ b c',yv=.slice (some b) 0 c'))\/
 ∃ (b off cap:Nat) (L:List Value),yv=.slice (some ⟨b,off,none⟩) ys.length cap/\0<ys.length/\L.length=ys.length*Γ.P.cellsOf E/\(∀ (i:Nat) (x:PV),ys[i]?=some x->Rep Γ.P D w E x ((L.drop (i*Γ.P.cellsOf E)).take (Γ.P.cellsOf E)))/\
  (∀ j u,L[j]?=some u->w.cell? ((⟨b,off,none⟩:Addr).add j)=some u):=by
 have plain:∀ (z:SV),SRep Γ.P D w ow μ st z yv->amy z=some ys->amk Γ.P E z=true->(ys=[]/\(yv=.slice none 0 0\/∃ b c',yv=.slice (some b) 0 c'))\/
  ∃ (b off cap:Nat) (L:List Value),yv=.slice (some ⟨b,off,none⟩) ys.length cap/\0<ys.length/\L.length=ys.length*Γ.P.cellsOf E/\(∀ (i:Nat) (x:PV),ys[i]?=some x->Rep Γ.P D w E x ((L.drop (i*Γ.P.cellsOf E)).take (Γ.P.cellsOf E)))/\
   (∀ j u,L[j]?=some u->w.cell? ((⟨b,off,none⟩:Addr).add j)=some u):=by
  intro z hz hl Z
  have ae:=akx hz hl Z
  cases ae with
  | @nil a c aa=>
   cases a with
   | none=>have:=aa rfl;subst this;exact Or.inl ⟨rfl,Or.inl rfl⟩
   | some a=>exact Or.inl ⟨rfl,Or.inr ⟨a,c,rfl⟩⟩
  | @mk b off cap _ L ag hL O I=>
   cases ys with
   | nil=>exact Or.inl ⟨rfl,Or.inr ⟨⟨b,off,none⟩,cap,rfl⟩⟩
   | cons q r=>exact Or.inr ⟨b,off,cap,L,rfl,by simp,hL,O,λj u M=>by rw [acb];exact (I j u M).2⟩
 cases y with
 | arr k g E'=>
  have:=Ae (show Nat.beq E E'=true from Z)
  subst this
  have hk:=adr (show agv st k g E=some ys from hl)
  cases hy with
  | arrOld o h2 _=>rw [hk] at o;cases o;omega
  | @arrNil _ _ _ a o=>
   rw [hk] at o;cases o
   cases a with
   | none=>exact Or.inl ⟨rfl,Or.inl rfl⟩
   | some a=>exact Or.inl ⟨rfl,Or.inr ⟨a,0,rfl⟩⟩
  | @arr _ _ cap _ _ J o h2 h3 h4 h5 h6=>
   rw [hk] at o;cases o
   cases ys with
   | nil=>exact Or.inl ⟨rfl,Or.inr ⟨_,_,rfl⟩⟩
   | cons q r=>
    rcases hw.obj k _ hk with h | ⟨af,a1,a2,a3,a4,a5⟩
    ·cases h
    ·rw [h4] at a1;cases a1;have H:(J.toList.take ((q::r).length*Γ.P.cellsOf E)).length=(q::r).length*Γ.P.cellsOf E:=by rw [List.length_take];exact Nat.min_eq_left (by simpa using a4)
     refine Or.inr ⟨μ k,0,cap,J.toList.take ((q::r).length*Γ.P.cellsOf E),rfl,by simp,H,λi x hi=>?_,λj u M=>?_⟩
     ·have ab:=(Bg.1 hi).1;have hm:i*Γ.P.cellsOf E+Γ.P.cellsOf E<=(q::r).length*Γ.P.cellsOf E:=by rw [<-Nat.succ_mul];exact Aw _ ab
      have:=a5 i x hi;rwa [List.drop_take,List.take_take,Nat.min_eq_left (by omega)]
     ·have ad:j<(q::r).length*Γ.P.cellsOf E:=by rw [<-H];exact (Bg.1 M).1
      rw [List.getElem?_take_of_lt ad] at M;rw [acb,Nat.zero_add];simp only [World.cell?,h4];simpa using M
 | _=>exact plain _ hy hl Z
theorem aq2 (hw:WRel Γ D ow μ st w) (T ty:TypeId) (x y:SV) (xv yv:Value) (v:SV) (st':List BX) (hx:SRep Γ.P D w ow μ st x xv) (hy:SRep Γ.P D w ow μ st y yv) (h:ac4 Γ.P st T x y=.upd true v st'):
 ∃ u w',(Builtin.append_ #[T,T] ty #[xv,yv]).run Γ.P w=.ok u w'/\OpRes Γ D ow μ st w (.ok (.value u) w') v st':=by
 unfold ac4 at h
 split at h
 ·rename_i E ys hT hl;cases hc:(azs Γ.P E y&&Nat.ble (Γ.P.bytesOf E) 512&&!(Nat.beq (Γ.P.bytesOf E) 0)&&!(Nat.beq (Γ.P.cellsOf E) 0)&&aca Γ.P E) with
  | false=>rw [hc] at h;simp at h
  | true=>
   rw [hc] at h;simp only [Af] at h;simp only [Aj,Bool.not_eq_true'] at hc;obtain ⟨⟨⟨⟨c1,c2⟩,c3⟩,c4⟩,c5⟩:=hc;have aw:0<Γ.P.cellsOf E:=by
    rcases Nat.eq_zero_or_pos (Γ.P.cellsOf E) with h0 | h0
    ·rw [h0] at c4;cases c4
    ·exact h0
   have aN:Γ.P.bytesOf E<=512:=Au c2;obtain ⟨J,z,hi,am,ab,ap,a4,a6,a5⟩:=abt (Γ:=Γ) (D:=D) (ow:=ow) (μ:=μ) (st:=st) (w:=w) c5;have aQ:J.bytes=Γ.P.bytesOf E:=by simp [Program.bytesOf,hi]
   have ad:=a8x hw aw hy hl c1;have O:∀ n,n<=aaf->n*J.bytes<=140737488355328:=by intro n hn;have h1:n*J.bytes<=aaf*512:=Nat.mul_le_mul hn (by rw [aQ];exact aN);unfold aaf at h1;omega
   split at h
   ·simp only [Ac.upd.injEq,A5] at h;obtain ⟨hb,rfl,rfl⟩:=h;cases hx;rcases ad with ⟨rfl,hv⟩ | ⟨b,off,cap,L,rfl,al,hL,ae,H⟩
    ·refine ⟨_,w,abm w T ty E J hT hi none 0 0 (by omega) yv hv (λ_=>⟨rfl,rfl⟩),?_⟩;obtain ⟨u1,u2⟩:=hw.accNil;exact ⟨_,_,_,_,_,Or.inl rfl,u1,u2,.acc (.nil λ_=>rfl) (by rw [A3 (Nat.le_refl _)];simp) (Nat.le_refl _) (λ_=>Or.inl rfl)⟩
    ·have ay:ys.length*J.bytes<=281474976710656:=by have:=O _ hb;omega
     have hr:=run_append_nil (P:=Γ.P) w T ty E J z hT hi am ⟨b,off,none⟩ ys.length cap L (by rw [ab];exact hL) H al (by unfold aaf at hb;omega) ay;refine ⟨_,_,hr,aj8 hw (Or.inl ⟨rfl,rfl⟩) 0 (by rw [A3 (Nat.le_refl _)];simp) ap rfl hL (grownCap_ge _ _ _ _) (grownCap_le_maxLen _ _ _ _ (by unfold aaf at hb;unfold maxLen;omega)) ae⟩
   ·rename_i k g E' xs;cases hg:(Nat.beq E E'&&an0 st k g) with
    | false=>rw [hg] at h;simp at h
    | true=>
     rw [hg] at h;simp only [Af,Ac.upd.injEq,A5] at h;obtain ⟨hb,rfl,rfl⟩:=h;simp only [Aj] at hg;have:=Ae hg.1;subst this;have aG:=hg.2;cases hx with
     | @acc _ _ g0 _ _ _ ah hk a3 aL=>
      simp only [an0,hk] at aG;have:=Ae aG;subst this;have aD:=(Bg.1 hk).1;have av:(st.set k (BX.acc (g+1)))[k]?=some (.acc (g+1)):=by rw [List.getElem?_set_self aD]
      have az:xs.length+ys.length<=maxLen:=by unfold aaf at hb;unfold maxLen;omega
      have own:=aL rfl;rcases ad with ⟨rfl,hv⟩ | ⟨b,off,cap,L,rfl,al,hL,ae,H⟩
      ·obtain ⟨u1,u2⟩:=hw.accBump hk;have fin:OpRes Γ D ow μ st w (.ok (.value xv) w) (.acc k (g+1) E (xs++[])) (st.set k (.acc (g+1))):=by
        rw [List.append_nil];exact ⟨_,_,_,_,_,Or.inl rfl,u1,u2,.acc ah av (Nat.le_refl _) (λ_=>own)⟩
       refine ⟨xv,w,?_,fin⟩;rcases own with rfl | ⟨gb,cap,M,rfl,_,ak,_⟩
       ·exact abm w T ty E J hT hi none 0 0 (by omega) yv hv (λ_=>⟨rfl,rfl⟩)
       ·exact abm w T ty E J hT hi _ _ _ ak yv hv (λh=>by cases h)
      ·have Z:(xs++ys).length=xs.length+ys.length:=by simp
       rcases own with rfl | ⟨gb,aq,M,rfl,aa,ak,aJ,aA,aR,an⟩
       ·have aT:xs=[]:=by cases ah;rfl
        subst aT;simp only [Ba,Ao,Nat.zero_add] at*;have ay:ys.length*J.bytes<=281474976710656:=by have:=O _ hb;omega
        have hr:=run_append_nil (P:=Γ.P) w T ty E J z hT hi am ⟨b,off,none⟩ ys.length cap L (by rw [ab];exact hL) H al (by unfold aaf at hb;omega) ay;exact ⟨_,_,hr,aj8 hw (Or.inr ⟨g,hk,rfl⟩) (g+1) av ap rfl hL (grownCap_ge _ _ _ _) (grownCap_le_maxLen _ _ _ _ az) ae⟩
       ·obtain ⟨I,af,aE,aB⟩:=ah.held;have au:∀ j u,I[j]?=some u->w.cell? ((⟨gb,0,none⟩:Addr).add j)=some u:=λj u hj=>by rw [acb];exact (aB j u hj).2
        have ao:M.toList.take I.length=I:=by
         apply List.ext_getElem?;intro j;by_cases hj:j<I.length
         ·rw [List.getElem?_take_of_lt hj];have:=au j _ (As hj);rw [acb,Nat.zero_add] at this;simp only [World.cell?,aa] at this;rw [As hj];simpa using this
         ·rw [Bb (by simp;omega),Bb (by omega)]
        have aj:=ahp af hL aE ae;have ar:(I++L).length=(xs++ys).length*Γ.P.cellsOf E:=by simp [af,hL,Nat.add_mul]
        by_cases ag:xs.length+ys.length<=aq
        ·have aF:xs.length*J.size+L.length<=M.size:=by rw [ab,hL,aA,<-Nat.add_mul];exact Aw _ ag
         have hr:=run_append_room (P:=Γ.P) w T ty E J hT hi gb xs.length aq M aa ⟨b,off,none⟩ ys.length cap L (by rw [ab];exact hL) H (ajz hL aw ae) ag aF;refine ⟨_,_,hr,?_⟩;have aU:xs.length*Γ.P.cellsOf E=I.length:=af.symm;have e1:M.toList.take (xs.length*J.size)++L++M.toList.drop (xs.length*J.size+L.length)=I++L++M.toList.drop (I.length+L.length):=by rw [ab,aU,ao]
         rw [e1];have ax:(w.setRow gb (I++L++M.toList.drop (I.length+L.length)).toArray).heap[gb]?=some (.cells (I++L++M.toList.drop (I.length+L.length)).toArray E (0,0)):=setRow_heap w gb M _ E _ aa;have aO:I.length+L.length<=M.size:=by rw [af,hL,aA,<-Nat.add_mul];exact Aw _ ag
         have aC:Keeps D w (w.setRow gb (I++L++M.toList.drop (I.length+L.length)).toArray):=by
          refine ⟨λb' o d=>?_,λb' o d es c he=>?_⟩
          ·by_cases ai:b'=gb
           ·subst ai;have ho:o<I.length:=by
             rcases Nat.lt_or_ge o I.length with h' | h'
             ·exact h'
             ·exact absurd d (an o (by omega))
            simp only [World.cell?,ax,aa];have:M.toList[o]?=I[o]?:=by rw [<-ao,List.getElem?_take_of_lt ho]
            simp only [Option.isSome_none,A6,A8];rw [List.getElem?_toArray,Ar,Ax ho,<-this];simp
           ·exact cell?_of_heap (setRow_other w gb b' _ ai) o
          ·by_cases ai:b'=gb
           ·subst ai;rw [aa] at he;cases he
           ·rw [setRow_other w gb b' _ ai];exact he
         rw [<-Z];refine apf hw (Or.inr ⟨g,hk,rfl⟩) (gb:=gb) (Or.inr aR) (λb' _ ai=>setRow_other w gb b' _ ai) (by simp) rfl rfl rfl aC ar ax (by rw [List.toList_toArray,List.take_left]) (by rw [Z];exact ag) aJ ?_ (λo ho=>an o ?_) aj (g+1) av
         ·have a0:I.length+L.length<=M.toList.length:=by simpa using aO
          have a2:M.toList.length=M.size:=by simp
          rw [<-aA,List.size_toArray,Ak,Ak,Be];omega
         ·rw [Z,Nat.add_mul] at ho;omega
        ·have hr:=run_append_grow (P:=Γ.P) w T ty E J z hT hi am ⟨gb,0,none⟩ xs.length aq I (by rw [ab];exact af) au ⟨b,off,none⟩ ys.length cap L (by rw [ab];exact hL) H (by omega) (by unfold aaf at hb;omega) (growslice_fits (by omega) (O _ hb));refine ⟨_,_,hr,?_⟩;rw [show I.toArray++L.toArray=(I++L).toArray by simp];exact aj8 hw (Or.inr ⟨g,hk,rfl⟩) (g+1) av ap Z.symm ar (by rw [Z];exact grownCap_ge _ _ _ _) (grownCap_le_maxLen _ _ _ _ az) aj
   ·rename_i E';cases hg:Nat.beq E E' with
    | false=>rw [hg] at h;simp at h
    | true=>
     rw [hg] at h;simp only [Af,Ac.upd.injEq,A5] at h;obtain ⟨hb,rfl,rfl⟩:=h;have:=Ae hg;subst this;cases hx with
     | @lit _ _ a ah=>
      obtain ⟨u1,u2⟩:=hw.arrNew E;have aH:(st++[BX.arr E 0 []])[st.length]?=some (.arr E 0 []):=by rw [A3 (Nat.le_refl _)];simp
      obtain ⟨u,w',r1,v1,w1,D1,aW,aY,r2,r3,r4,r5⟩:=aoi u1 T ty E (ys:=ys) (yv:=yv) hT hi am ab ap aw O aH (xv:=.slice (some a) 0 0) (.arrNil aH) ad (by simpa using hb);have e1:(st++[BX.arr E 0 []]).set st.length (.arr E (0+1) ([]++ys))=st++[.arr E 1 ys]:=by simp
      rw [e1] at r3 r4 r5;exact ⟨u,w',r1,v1,w1,D1,aW,aY,r2,r3,u2.trans r4,r5⟩
   ·rename_i E' x0 aX;generalize aV:x0::aX=xs at hx h;clear aV;cases hg:Nat.beq E E' with
    | false=>rw [hg] at h;simp at h
    | true=>
     rw [hg] at h;simp only [Af,Ac.upd.injEq,A5] at h;obtain ⟨hb,rfl,rfl⟩:=h;have:=Ae hg;subst this;cases hx with
     | @lit _ _ a ah=>
      have Z:(xs++ys).length=xs.length+ys.length:=by simp
      rcases ad with ⟨rfl,hv⟩ | ⟨b,off,cap,L,rfl,al,hL,ae,H⟩
      ·refine ⟨_,w,abm w T ty E J hT hi _ _ _ (Nat.le_refl _) yv hv (λh=>by cases h),?_⟩;rw [List.append_nil];exact OpRes.still hw rfl (.slice ah)
      ·have aI:∃ (I:List Value),I.length=xs.length*Γ.P.cellsOf E/\(∀ (i:Nat) (x:PV),xs[i]?=some x->Rep Γ.P D w E x ((I.drop (i*Γ.P.cellsOf E)).take (Γ.P.cellsOf E)))/\∀ j u,I[j]?=some u->w.cell? (a.add j)=some u:=by
        generalize hn:xs.length=n at ah;generalize aS:Value.slice (some a) n n=vv at ah;cases ah with
        | nil=>exact ⟨[],by simp at hn;simp [<-hn],λi x hi=>by simp at hi,λj u hj=>by simp at hj⟩
        | @mk b0 a1 aZ _ I h1 h2 h3 h4=>cases aS;exact ⟨I,by rw [h2],h3,λj u hj=>by rw [acb];exact (h4 j u hj).2⟩
       obtain ⟨I,af,aE,au⟩:=aI;have aj:=ahp af hL aE ae;have ar:(I++L).length=(xs++ys).length*Γ.P.cellsOf E:=by simp [af,hL,Nat.add_mul]
       have az:xs.length+ys.length<=maxLen:=by unfold aaf at hb;unfold maxLen;omega
       have hr:=run_append_grow (P:=Γ.P) w T ty E J z hT hi am a xs.length xs.length I (by rw [ab];exact af) au ⟨b,off,none⟩ ys.length cap L (by rw [ab];exact hL) H (by omega) (by unfold aaf at hb;omega) (growslice_fits (by omega) (O _ hb));refine ⟨_,_,hr,?_⟩;rw [show I.toArray++L.toArray=(I++L).toArray by simp];generalize ak:grownCap _ _ _ _=gc;have aP:(xs++ys).length<=gc:=by rw [Z,<-ak];exact grownCap_ge _ _ _ _
       rw [<-Z];have g:Grew w (w.drew.alloc (.cells ((I++L).toArray++Builtin.zeroCells z.cells (gc-(xs++ys).length)) E)):=(Grew.drawn w (w.drawn+1)).trans (Grew.alloc w.drew _);refine OpRes.grew hw (D':=λb o=>D b o\/(b=w.heap.size/\o<(I++L).length)) rfl g (λb o d=>Or.inl d) (λb o d=>d.imp id (λd=>⟨by omega,by rw [d.1];simp⟩)) (λm=>.slice ?_);refine .mk aP ar (λi x hx=>(aj i x hx).mono m.dom m.keeps) (λj u hj=>?_);have aD:=(Bg.1 hj).1;refine ⟨Or.inr ⟨rfl,by omega⟩,?_⟩;have aK:(w.drew.alloc (.cells ((I++L).toArray++Builtin.zeroCells z.cells (gc-(xs++ys).length)) E)).heap[w.heap.size]?=some (.cells ((I++L).toArray++Builtin.zeroCells z.cells (gc-(xs++ys).length)) E (0,0)):=aas w.drew _;simp only [Nat.zero_add,World.cell?,aK];simp only [Option.isSome_none,A6,A8];rw [Array.getElem?_append_left (by simpa using aD)];simpa using hj
   ·rename_i k g E';cases hg:Nat.beq E E' with
    | false=>rw [hg] at h;simp at h
    | true=>
     rw [hg] at h;simp only [Af] at h;have:=Ae hg;subst this;split at h;case h_2=>cases h
     rename_i xs aM;have hk:=adr aM;simp only [Ac.upd.injEq,A5] at h;obtain ⟨hb,rfl,rfl⟩:=h;exact aoi hw T ty E hT hi am ab ap aw O hk hx ad hb
   ·simp at h
 ·simp at h
theorem am1 (hw:WRel Γ D ow μ st w) (T:TypeId) (x y:SV) (xv yv:Value) (v:SV) (st':List BX) (hx:SRep Γ.P D w ow μ st x xv) (hy:SRep Γ.P D w ow μ st y yv) (h:ac8 Γ.P T x y st=.upd true v st'):
 ∃ u w',(Instr.makeSlice T xv yv).run Γ.P w=.ok u w'/\OpRes Γ D ow μ st w (.ok (.value u) w') v st':=by
 unfold ac8 at h
 split at h
 ·rename_i E c hT;cases M:(aca Γ.P E&&!(Nat.beq (Γ.P.cellsOf E) 0)&&Nat.ble (Γ.P.bytesOf E) 512) with
  | false=>grind
  | true=>
   rw [M] at h;simp only [Af,Ac.upd.injEq,A5] at h;obtain ⟨hb,rfl,rfl⟩:=h;simp only [Aj,Bool.not_eq_true'] at M;obtain ⟨⟨c1,c2⟩,c3⟩:=M;have aa:Γ.P.bytesOf E<=512:=Au c3;obtain ⟨H,z,I,Z,O,ag,ad,af,ae⟩:=abt (Γ:=Γ) (D:=D) (ow:=ow) (μ:=μ) (st:=st) (w:=w) c1;have ab:H.bytes=Γ.P.bytesOf E:=by simp [Program.bytesOf,I]
   cases hx;cases hy;obtain ⟨n,rfl⟩:∃ n:Nat,c=(n:Int):=⟨c.toNat,by omega⟩;have hn:n<=68719476736:=by grind [aaf]
   have J:(H.bytes:Int)*(n:Int)<=281474976710656:=by have h1:H.bytes*n<=512*68719476736:=Nat.mul_le_mul (by grind) hn;grind
   have hr:=run_make (P:=Γ.P) w T E H z hT I Z .i64 .i64 0 n (Int.le_refl _) (by omega) J (by omega);simp only [Int.toNat_zero,Ai] at hr;refine ⟨_,_,hr,apf hw (Or.inl ⟨rfl,rfl⟩) (gb:=w.heap.size) (zs:=[]) (L:=[]) (Or.inl ⟨Nat.le_refl _,by simp⟩) (λb hb _=>aa6 w _ b hb) (by simp) rfl rfl rfl
    (Keeps.of_heap λb o d=>aa6 w _ b (hw.dlt b o d)) (by simp) (aas w _) (by simp) (by simp) (by unfold maxLen;omega) (by rw [size_madeCells,O]) (λo _ d=>by have:=hw.dlt _ _ d;omega) (λi x I=>by simp at I) 0 (by grind)⟩
 ·cases h
end
end Go.Ab
