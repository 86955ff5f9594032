/- Operations that write. -/
import Derived.Test.YthokbeimbdnnoaaGreatDoorAbMap
set_option linter.unusedVariables false
set_option linter.unusedSimpArgs false
set_option linter.unnecessarySimpa false
namespace Go.Ab
open Go
section
variable {Γ:Ctx}{D:Dom}{ow:Own}{μ:Nat->Nat}{st:List BX}{w:World}
theorem a4i (z:WRel Γ D ow μ st w) (T:TypeId) (s:SV) (h:List Value) (M:h.length=Γ.P.cellsOf T) (Z:SRep Γ.P D w ow μ st s (pack Γ.P T h)) (r:Result Next)
 (O:r=.ok (.value (.pointer (some ⟨w.heap.size,0,none⟩))) (w.alloc (.cells h.toArray T))):OpRes Γ D ow μ st w r (.ref st.length [] T) (st++[.box T s]):=by
 have J:∀ o,¬D w.heap.size o:=λo d=>by have:=z.dlt _ _ d;omega
 obtain ⟨H,I⟩:=z.newOwn (.cells h.toArray T) (.box T s) (λm=>
  ⟨h,T,by rw [aah];exact aas _ _,M,by rw [aah,aah],by rw [aah];exact J,Z.mono m⟩)
 refine ⟨_,_,_,_,_,Or.inl O,H,I,?_⟩
 have:=SRep.ref (P:=Γ.P) (D:=D) (w:=w.alloc (.cells h.toArray T)) (ow:=upd ow w.heap.size (some st.length)) (μ:=upd μ st.length w.heap.size) (st:=st++[.box T s]) (k:=st.length) (path:=[]) (T:=T) (TB:=T) (v:=s) (off:=0)
  (by rw [Av (Nat.le_refl _)];simp) rfl
 rwa [aah] at this
theorem ake {P:Program}{T:TypeId} (h:ar6 P T=true):∃ i,P.info? T=some i/\i.zero=some (.agg #[.pointer none,.slice none 0 0]):=by
 unfold ar6 at h;split at h
 ·rename_i cs o;cases H:P.info? T with
  | none=>rw [H] at o;cases o
  | some i=>
   rw [H] at o;refine ⟨i,rfl,?_⟩;simp only [Ae] at o;rw [o];split at h
   ·rename_i z;have:cs=#[.pointer none,.slice none 0 0]:=by
     cases cs;simpa using z
    rw [this]
   ·cases h
 ·cases h
theorem ar0 (O:WRel Γ D ow μ st w) (T:TypeId) {v:SV}{st':List BX} (h:agp Γ.P T st=.upd true v st'):∃ u w',(Instr.alloc T true (.tuple #[])).run Γ.P w=.ok u w'/\
 OpRes Γ D ow μ st w (.ok (.value u) w') v st':=by
 unfold agp at h
 cases I:afc Γ.P T with
 | true=>
  rw [I] at h
  simp only [Af,Ac.upd.injEq,true_and] at h
  obtain ⟨rfl,rfl⟩:=h
  simp only [afc,Ai] at I
  obtain ⟨i,J,H⟩:=ake I.2
  have hD:∀ o,¬D w.heap.size o:=λo d=>by have:=O.dlt _ _ d;omega
  obtain ⟨h1,h2⟩:=O.newOwn (.cells #[.pointer none,.slice none 0 0] T) (.bld T []) (λm=>show BldRep _ _ _ _ _ _ _ _ from
   ⟨.pointer none,.slice none 0 0,by rw [aah];exact aas _ _,Or.inl rfl,by rw [aah,aah],by rw [aah];exact hD,Or.inl ⟨rfl,rfl⟩⟩)
  refine ⟨.pointer (some ⟨w.heap.size,0,none⟩),w.alloc (.cells #[.pointer none,.slice none 0 0] T),by simp [Instr.alloc,zeroValue,typeInfo,J,H,newVar,newRow,Value.cells],_,_,_,_,_,Or.inl rfl,h1,h2,?_⟩
  have:=SRep.bref (P:=Γ.P) (D:=D) (w:=w.alloc (.cells #[.pointer none,.slice none 0 0] T)) (ow:=upd ow w.heap.size (some st.length)) (μ:=upd μ st.length w.heap.size) (st:=st++[.bld T []]) (k:=st.length) (T:=T) (TB:=T) (bs:=[])
   (by rw [Av (Nat.le_refl _)];simp)
  rwa [aah] at this
 | false=>
  rw [I] at h
  simp only [Ah] at h
  cases H:ack Γ.P T with
  | false=>rw [H] at h;cases h
  | true=>
   rw [H] at h
   simp only [Af,Ac.upd.injEq,true_and] at h
   obtain ⟨rfl,rfl⟩:=h
   obtain ⟨i,z,J,M,ae,ab,Z,aa,ad⟩:=abw (Γ:=Γ) (D:=D) (ow:=ow) (μ:=μ) (st:=st) (w:=w) H
   refine ⟨_,_,?_,a4i O T _ z.cells.toList (by simpa using ab) (by rw [<-Z];exact aa) _ rfl⟩
   simp [Instr.alloc,zeroValue,typeInfo,J,M,newVar,newRow]
theorem axp (I:WRel Γ D ow μ st w) (T:TypeId) (s:SV) (v:Value) (h:SRep Γ.P D w ow μ st s v) (H:agj Γ.P T s=true):∃ u w',(Instr.box T v).run Γ.P w=.ok u w'/\
 OpRes Γ D ow μ st w (.ok (.value u) w') (.ref st.length [] T) (st++[.box T s]):=by
 obtain ⟨o,J,z⟩:=ae9 h H
 refine ⟨_,_,?_,a4i I T s v.cells.toList o (by rw [z];exact h) _ rfl⟩
 simp [Instr.box,newVar,newRow]
theorem anj:∀ (n:Nat) (T:TypeId) (s:SV) (v:Value),SRep Γ.P D w ow μ st s v->aiu Γ.P n T s=true->v=.agg #[.pointer none,.slice none 0 0]:=by
 intro n;induction n with
 | zero=>intro T s v _ h;simp [aiu] at h
 | succ n ih=>
  intro T s v hs h;unfold aiu at h;split at h
  ·rename_i z T' fs hT;simp only [Ai] at h;obtain ⟨h0,h⟩:=h;have:=Aa h0;subst this;cases hs with
   | @agg _ aa _ cs O hl ho hv hp=>
    rw [hT] at O;cases O;split at h
    ·rename_i f x o;simp only [Ai] at h;obtain ⟨⟨⟨H,I⟩,J⟩,M⟩:=h;have H:=Aa H;have I:=Aa I;have hf:z[0]?=some f:=by
      have:z.toList[0]?=some f:=by rw [o];rfl
      simpa using this
     have Z:=hp 0 x f rfl hf;rw [H,As,I,<-hl,List.take_length] at Z;have:=ih f.type x _ Z M;simp only [pack,J,Ba,Value.agg.injEq] at this;rw [this]
    ·rename_i f g o;simp only [Ai,Bool.not_eq_true'] at h;obtain ⟨⟨⟨⟨⟨⟨H,I⟩,J⟩,M⟩,h5⟩,h6⟩,h7⟩:=h;have J:=Aa J;have M:=Aa M;have h5:=Aa h5;have h6:=Aa h6;have h7:=Aa h7;have hf:z[0]?=some f:=by
      have:z.toList[0]?=some f:=by rw [o];rfl
      simpa using this
     have hg:z[1]?=some g:=by
      have:z.toList[1]?=some g:=by rw [o];rfl
      simpa using this
     have Z:=hp 0 _ f rfl hf;have hy:=hp 1 _ g rfl hg;rw [h7] at hl;match cs,hl with
     | [a,b],_=>simp only [J,h5,As,List.take,pack,H,A7,A8,List.headD] at Z;simp only [M,h6,List.drop,List.take,pack,I,A7,A8,List.headD] at hy;cases Z;cases hy;rfl
    ·cases h
  ·cases h
theorem ar8 (I:WRel Γ D ow μ st w) (T:TypeId) (s:SV) (xv:Value) (J:SRep Γ.P D w ow μ st s xv) {v:SV}{st':List BX} (h:ap6 Γ.P T s st=.upd true v st'):∃ u w',(Instr.box T xv).run Γ.P w=.ok u w'/\OpRes Γ D ow μ st w (.ok (.value u) w') v st':=by
 unfold ap6 at h;cases z:(afc Γ.P T&&aiu Γ.P 3 T s) with
 | true=>
  rw [z] at h;simp only [Af,Ac.upd.injEq,true_and] at h;obtain ⟨rfl,rfl⟩:=h;simp only [Ai] at z;have hv:=anj 3 T s xv J z.2;subst hv;have Z:∀ o,¬D w.heap.size o:=λo d=>by have:=I.dlt _ _ d;omega
  obtain ⟨M,O⟩:=I.newOwn (.cells #[.pointer none,.slice none 0 0] T) (.bld T []) (λm=>show BldRep _ _ _ _ _ _ _ _ from
   ⟨.pointer none,.slice none 0 0,by rw [aah];exact aas _ _,Or.inl rfl,by rw [aah,aah],by rw [aah];exact Z,Or.inl ⟨rfl,rfl⟩⟩)
  refine ⟨.pointer (some ⟨w.heap.size,0,none⟩),w.alloc (.cells #[.pointer none,.slice none 0 0] T),by simp [Instr.box,newVar,newRow,Value.cells],_,_,_,_,_,Or.inl rfl,M,O,?_⟩;have:=SRep.bref (P:=Γ.P) (D:=D) (w:=w.alloc (.cells #[.pointer none,.slice none 0 0] T)) (ow:=upd ow w.heap.size (some st.length)) (μ:=upd μ st.length w.heap.size) (st:=st++[.bld T []]) (k:=st.length) (T:=T) (TB:=T) (bs:=[])
   (by rw [Av (Nat.le_refl _)];simp)
  rwa [aah] at this
 | false=>
  rw [z] at h;simp only [Ah] at h;cases H:agj Γ.P T s with
  | false=>rw [H] at h;cases h
  | true=>rw [H] at h;simp only [Af,Ac.upd.injEq,true_and] at h;obtain ⟨rfl,rfl⟩:=h;exact axp I T s xv J H
theorem WRel.setBox (H:WRel Γ D ow μ st w) {k:Nat}{TB:TypeId}{s Z:SV} (M:st[k]?=some (.box TB s)) {w':World}{z:List Value}{T':TypeId}
 (hh:w'.heap[μ k]?=some (.cells z.toArray T' (0,0))) (hl:z.length=Γ.P.cellsOf TB) (ho:∀ b,b≠μ k->w'.heap[b]?=w.heap[b]?) (ad:w'.heap.size=w.heap.size)
 (ai:w'.os=w.os) (ak:w'.tape=w.tape) (aj:w'.output=w.output) (hs:SRep Γ.P D w ow μ st Z (pack Γ.P TB z)):
 WRel Γ D ow μ (st.set k (.box TB Z)) w'/\Moves D w ow μ st D w' ow μ (st.set k (.box TB Z)):=by
 have ah:=(List.getElem?_eq_some_iff.1 M).1
 obtain ⟨c0,T0,b1,b2,b3,b4,b5⟩:=H.box k TB s M
 have ne:∀ {j:Nat}{y:BX},st[j]?=some y->j≠k->(st.set k (.box TB Z))[j]?=some y:=λe h=>by rw [Ar (by omega)];exact e
 have I:(st.set k (.box TB Z))[k]?=some (.box TB Z):=by rw [List.getElem?_set_self ah]
 have ag:Keeps D w w':=Keeps.of_heap λb o d=>ho b (λe=>by subst e;exact b4 o d)
 have m:Moves D w ow μ st D w' ow μ (st.set k (.box TB Z)):=by
  refine ⟨λ_ _ d=>d,ag,λj T x e=>⟨rfl,?_⟩,λj K E es e=>⟨rfl,?_⟩,λj b e hs=>⟨rfl,b,?_,rfl⟩,λj E g xs e=>?_,λj g e=>?_⟩
  ·by_cases h:j=k
   ·subst h;rw [M] at e;cases e;exact ⟨_,I⟩
   ·exact ⟨_,ne e h⟩
  ·by_cases h:j=k
   ·subst h;rw [M] at e;cases e
   ·exact ⟨_,ne e h⟩
  ·by_cases h:j=k
   ·subst h;rw [M] at e;cases e;exact absurd rfl hs
   ·exact ne e h
  ·by_cases h:j=k
   ·subst h;rw [M] at e;cases e
   ·refine ⟨g,xs,ne e h,Nat.le_refl _,λ_=>⟨rfl,λcur hc ab=>⟨rfl,ab,cur,(ho _ (λJ=>?_)).trans hc,rfl⟩⟩⟩;rw [J,b3] at ab;cases ab;exact h rfl
  ·by_cases h:j=k
   ·subst h;rw [M] at e;cases e
   ·refine ⟨g,ne e h,Nat.le_refl _,λ_ b ob=>⟨ho b (λhb=>?_),ob,λ_ d=>d⟩⟩;subst hb;rw [b3] at ob;cases ob;exact h rfl
 have O:∀ j,j<Γ.np->∃ b,(st.set k (.box TB Z))[j]?=some b/\b.kind=Γ.K0 j:=by
  intro j h;obtain ⟨x,hx,p1⟩:=H.par j h;by_cases af:j=k
  ·subst af;rw [M] at hx;cases hx;exact ⟨_,I,p1⟩
  ·exact ⟨x,ne hx af,p1⟩
 refine ⟨⟨λj T x e=>?_,λj K E es e=>?_,λj x e=>?_,λb j o=>?_,λb o d=>by rw [ad];exact H.dlt b o d,ai.trans H.os,ak.trans H.tape,aj.trans H.output,by rw [ad];exact H.hs,λb hb hn=>?_,H.dom0,H.domN,H.owN,by simpa using H.np,H.mu0,O,λb j y ob e hy o d=>?_,H.keep0.trans m.keeps H.dom0,H.arr0_moves m O⟩,m⟩
 ·by_cases h:j=k
  ·subst h;rw [I] at e;cases e;exact ⟨z,T',hh,hl,b3,b4,hs.mono m⟩
  ·rw [Ar (by omega)] at e;obtain ⟨c,T1,q1,q2,q3,q4,q5⟩:=H.box j T x e;have aa:μ j≠μ k:=λJ=>by rw [J,b3] at q3;cases q3;exact h rfl
   exact BoxRep.mono ⟨c,T1,q1,q2,q3,q4,q5⟩ m rfl (ho _ aa) q3 q4
 ·by_cases h:j=k
  ·subst h;rw [I] at e;cases e
  ·rw [Ar (by omega)] at e;obtain ⟨ents,clock,kc,vc,q1,q2,q3⟩:=H.map j K E es e;have aa:μ j≠μ k:=λJ=>by rw [J,b3] at q2;cases q2;exact h rfl
   exact OMapRep.mono ⟨ents,clock,kc,vc,q1,q2,q3⟩ m.dom m.keeps rfl (ho _ aa) q2 q3.1
 ·by_cases h:j=k
  ·subst h;rw [I] at e;cases e;trivial
  ·rw [Ar (by omega)] at e;refine (H.obj j x e).mono m.dom m.keeps (λ_=>rfl) (λc oc=>⟨ho c (λhb=>?_),oc,λ_ d=>d⟩);subst hb;rw [b3] at oc;cases oc;exact h rfl
 ·have:=H.owlt b j o;rw [ad];simpa using this
 ·by_cases ae:b=μ k
  ·subst ae;have:=H.owN _ _ b3 hb;rw [hn] at this;cases this
  ·exact (ho b ae).trans (H.old b hb hn)
 ·by_cases h:j=k
  ·subst h;exact H.lone b j _ ob M (by simp) o d
  ·rw [Ar (by omega)] at e;exact H.lone b j y ob e hy o d
theorem WRel.setArr (z:WRel Γ D ow μ st w) {k g:Nat}{J:TypeId}{xs xs':List PV} (Z:st[k]?=some (.arr J g xs)) {w':World}{cur H:Array Value} (ah:w.heap[μ k]?=some (.cells cur J (0,0))) (b3:ow (μ k)=some k) (b4:∀ o,¬D (μ k) o)
 (hh:w'.heap[μ k]?=some (.cells H J (0,0))) (ai:H.size=cur.size) (hl:xs'.length=xs.length) (ho:∀ b,b≠μ k->w'.heap[b]?=w.heap[b]?) (ad:w'.heap.size=w.heap.size)
 (al:w'.os=w.os) (an:w'.tape=w.tape) (am:w'.output=w.output) (hs:xs'.length*Γ.P.cellsOf J<=H.size/\∀ (i:Nat) (x:PV),xs'[i]?=some x->Rep Γ.P D w J x ((H.toList.drop (i*Γ.P.cellsOf J)).take (Γ.P.cellsOf J))):
 WRel Γ D ow μ (st.set k (.arr J g xs')) w'/\Moves D w ow μ st D w' ow μ (st.set k (.arr J g xs')):=by
 have ak:=(List.getElem?_eq_some_iff.1 Z).1
 have ne:∀ {j:Nat}{y:BX},st[j]?=some y->j≠k->(st.set k (.arr J g xs'))[j]?=some y:=λe h=>by rw [Ar (by omega)];exact e
 have I:(st.set k (.arr J g xs'))[k]?=some (.arr J g xs'):=by rw [List.getElem?_set_self ak]
 have aj:Keeps D w w':=Keeps.of_heap λb o d=>ho b (λe=>by subst e;exact b4 o d)
 have m:Moves D w ow μ st D w' ow μ (st.set k (.arr J g xs')):=by
  refine ⟨λ_ _ d=>d,aj,λj T x e=>⟨rfl,?_⟩,λj K E es e=>⟨rfl,?_⟩,λj b e hs=>⟨rfl,b,?_,rfl⟩,λj E g xs e=>?_,λj g e=>?_⟩
  ·by_cases h:j=k
   ·subst h;rw [Z] at e;cases e
   ·exact ⟨_,ne e h⟩
  ·by_cases h:j=k
   ·subst h;rw [Z] at e;cases e
   ·exact ⟨_,ne e h⟩
  ·by_cases h:j=k
   ·subst h;rw [Z] at e;cases e;exact absurd rfl hs
   ·exact ne e h
  ·by_cases h:j=k
   ·subst h;rw [Z] at e;cases e;refine ⟨_,_,I,Nat.le_refl _,λ_=>⟨hl,λao af O=>⟨rfl,O,H,hh,?_⟩⟩⟩;rw [ah] at af;cases af;exact ai
   ·refine ⟨_,_,ne e h,Nat.le_refl _,λ_=>⟨rfl,λcur hc O=>⟨rfl,O,cur,(ho _ (λM=>?_)).trans hc,rfl⟩⟩⟩;rw [M,b3] at O;cases O;exact h rfl
  ·by_cases h:j=k
   ·subst h;rw [Z] at e;cases e
   ·refine ⟨g,ne e h,Nat.le_refl _,λ_ b ob=>⟨ho b (λhb=>?_),ob,λ_ d=>d⟩⟩;subst hb;rw [b3] at ob;cases ob;exact h rfl
 have aa:∀ j,j<Γ.np->∃ b,(st.set k (.arr J g xs'))[j]?=some b/\b.kind=Γ.K0 j:=by
  intro j h;obtain ⟨x,hx,p1⟩:=z.par j h;by_cases ag:j=k
  ·subst ag;rw [Z] at hx;cases hx;exact ⟨_,I,p1⟩
  ·exact ⟨x,ne hx ag,p1⟩
 refine ⟨⟨λj T x e=>?_,λj K E es e=>?_,λj x e=>?_,λb j o=>?_,λb o d=>by rw [ad];exact z.dlt b o d,al.trans z.os,an.trans z.tape,am.trans z.output,by rw [ad];exact z.hs,λb hb hn=>?_,z.dom0,z.domN,z.owN,by simpa using z.np,z.mu0,aa,λb j y ob e hy o d=>?_,z.keep0.trans m.keeps z.dom0,z.arr0_moves m aa⟩,m⟩
 ·by_cases h:j=k
  ·subst h;rw [I] at e;cases e
  ·rw [Ar (by omega)] at e;obtain ⟨c,T1,q1,q2,q3,q4,q5⟩:=z.box j T x e;have ab:μ j≠μ k:=λM=>by rw [M,b3] at q3;cases q3;exact h rfl
   exact BoxRep.mono ⟨c,T1,q1,q2,q3,q4,q5⟩ m rfl (ho _ ab) q3 q4
 ·by_cases h:j=k
  ·subst h;rw [I] at e;cases e
  ·rw [Ar (by omega)] at e;obtain ⟨ents,clock,kc,vc,q1,q2,q3⟩:=z.map j K E es e;have ab:μ j≠μ k:=λM=>by rw [M,b3] at q2;cases q2;exact h rfl
   exact OMapRep.mono ⟨ents,clock,kc,vc,q1,q2,q3⟩ m.dom m.keeps rfl (ho _ ab) q2 q3.1
 ·by_cases h:j=k
  ·subst h;rw [I] at e;cases e;exact Or.inr ⟨H,hh,b3,b4,hs.1,λi x hx=>(hs.2 i x hx).mono m.dom m.keeps⟩
  ·rw [Ar (by omega)] at e;refine (z.obj j x e).mono m.dom m.keeps (λ_=>rfl) (λc oc=>⟨ho c (λhb=>?_),oc,λ_ d=>d⟩);subst hb;rw [b3] at oc;cases oc;exact h rfl
 ·have:=z.owlt b j o;rw [ad];simpa using this
 ·by_cases ae:b=μ k
  ·subst ae;have:=z.owN _ _ b3 hb;rw [hn] at this;cases this
  ·exact (ho b ae).trans (z.old b hb hn)
 ·by_cases h:j=k
  ·subst h;exact z.lone b j _ ob Z (by simp) o d
  ·rw [Ar (by omega)] at e;exact z.lone b j y ob e hy o d
theorem ato (hw:WRel Γ D ow μ st w) (T:TypeId) (a x:SV) (ad xv:Value) (v:SV) (st':List BX) (ha:SRep Γ.P D w ow μ st a ad) (hx:SRep Γ.P D w ow μ st x xv) (h:adu Γ.P T st a x=.upd true v st'):
 ∃ w',(Instr.storeAt T ad xv).run Γ.P w=.ok () w'/\OpRes Γ D ow μ st w (.ok .skip w') v st':=by
 unfold adu at h
 split at h
 ·rename_i k path T';cases M:(Nat.beq T T'&&agj Γ.P T x&&!(Nat.beq (Γ.P.cellsOf T) 0)) with
  | false=>rw [M] at h;simp at h
  | true=>
   rw [M] at h;simp only [Ai,Bool.not_eq_true'] at M;have:=Aa M.1.1;subst this;have ai:Γ.P.cellsOf T≠0:=λe=>by rw [e] at M;cases M.2
   simp only [Af] at h;cases ha with
   | @ref _ _ _ TB s off hk hp=>
    rw [hk] at h;simp only at h;cases hg:ag8 Γ.P TB s path x with
    | none=>rw [hg] at h;simp at h
    | some s'=>
     rw [hg] at h;simp only [Ac.upd.injEq,true_and] at h;obtain ⟨rfl,rfl⟩:=h;obtain ⟨f1,f2,f3⟩:=ae9 hx M.1.2;obtain ⟨o,T',b1,b2,b3,b4,b5⟩:=hw.box k TB s hk;obtain ⟨r1,r2⟩:=ajd path TB s o off T x xv.cells.toList s' b5 b2 hp (by rw [f3];exact hx) f1 f2 hg;obtain ⟨ar,hi,ae⟩:=aa5 ai;have aa:=run_storeCells_at Γ.P (μ k) off T' xv.cells.toList 0 o.toArray w b1 (by simpa using r2) f2;simp only [Nat.add_zero,List.toList_toArray] at aa;have Z:(w.setRow (μ k) (abd o off xv.cells.toList).toArray).heap[μ k]?=some (.cells (abd o off xv.cells.toList).toArray T' (0,0)):=setRow_heap w (μ k) o.toArray _ T' _ b1;obtain ⟨q1,q2⟩:=hw.setBox hk Z (by rw [abu r2];exact b2) (λb M=>setRow_other w (μ k) b _ M) (by simp) rfl rfl rfl r1;refine ⟨w.setRow (μ k) (abd o off xv.cells.toList).toArray,?_,Go.undef,_,D,ow,μ,Or.inr ⟨rfl,rfl⟩,q1,q2,.undef⟩;have ak:xv.cells.size=Γ.P.cellsOf T:=by simpa using f1
     simp only [Instr.storeAt,Instr.sureAddr,Sem.run_bind,Sem.run_pure,Result.andThen_ok,storeVar,aa3 hi ae,ak,ne_eq,not_true_eq_false,A8];exact aa
 ·rename_i k i E;cases M:(Nat.beq T E&&isOf Γ.P E x&&aa1 Γ.P E) with
  | false=>rw [M] at h;cases h
  | true=>
   rw [M] at h;simp only [Af] at h;simp only [Ai,aa1,Bool.not_eq_true',Bd] at M;obtain ⟨⟨e1,e2⟩,⟨e3,e4⟩,e5⟩:=M;have:=Aa e1;subst this;have ai:Γ.P.cellsOf T≠0:=λe=>by rw [e] at e3;cases e3
   cases ha with
   | @eref _ _ n _ TB s hk hT hi=>
    rw [hk] at h;split at h;case h_2=>cases h
    rename_i aE au pv he;cases he;cases hc:(Nat.beq TB au&&ap3 Γ.P TB T) with
    | false=>rw [hc] at h;cases h
    | true=>
     rw [hc] at h;simp only [Af,Ac.upd.injEq,true_and] at h;obtain ⟨rfl,rfl⟩:=h;simp only [Ai] at hc;have:=Aa hc.1;subst this;have az:Γ.P.cellsOf TB=n*Γ.P.cellsOf T:=by have:=hc.2;unfold ap3 at this;rw [hT] at this;simp only [Ai] at this;exact Aa this.2
     obtain ⟨o,T',b1,b2,b3,b4,b5⟩:=hw.box k TB _ hk;obtain ⟨a1,a2,a3,a4,a5⟩:=alc hT b5 b2;have O:=abh hx T e2;have J:xv.cells.toList.length=Γ.P.cellsOf T:=by
      cases am:aak Γ.P T with
      | true=>exact O.aggLen am
      | false=>
       rcases e5 with h' | h'
       ·rw [am] at h';cases h'
       ·obtain ⟨u,hu⟩:=O.single am;rw [hu,Aa h'];rfl
     have ah:(i+1)*Γ.P.cellsOf T<=n*Γ.P.cellsOf T:=Ay _ (by omega);rw [Nat.add_mul] at ah;have I:i*Γ.P.cellsOf T+xv.cells.toList.length<=o.length:=by omega
     obtain ⟨ar,ab,ae⟩:=aa5 ai;have aa:=run_storeCells_at Γ.P (μ k) (i*Γ.P.cellsOf T) T' xv.cells.toList 0 o.toArray w b1 (by simpa using I) O.oneCell;simp only [Nat.add_zero,List.toList_toArray] at aa;have Z:(w.setRow (μ k) (abd o (i*Γ.P.cellsOf T) xv.cells.toList).toArray).heap[μ k]?=some (.cells (abd o (i*Γ.P.cellsOf T) xv.cells.toList).toArray T' (0,0)):=setRow_heap w (μ k) o.toArray _ T' _ b1;have an:aak Γ.P TB=true:=by simp [aak,hT]
     have r1:SRep Γ.P D w ow μ st (.data TB (.agg (pv.parts.set i (toPV x)))) (pack Γ.P TB (abd o (i*Γ.P.cellsOf T) xv.cells.toList)):=by
      simp only [pack,an,Ba];refine .data an (.arr hT (by rw [abu I];exact b2) (λc H=>?_) (by simpa using a2) (λm y hm=>?_))
      ·unfold abd at H;simp only [Bk] at H;rcases H with (H | H) | H
       ·exact a4 c (List.mem_of_mem_take H)
       ·exact O.oneCell c H
       ·exact a4 c (List.mem_of_mem_drop H)
      ·by_cases ag:m=i
       ·subst ag;rw [List.getElem?_set_self (by omega)] at hm;cases hm;have:=amq I;rw [J] at this;rw [this];exact O
       ·rw [Ar (by omega)] at hm;rw [adn I]
        ·exact a5 m y hm
        ·rw [J];rcases Nat.lt_or_gt_of_ne ag with h' | h'
         ·have:(m+1)*Γ.P.cellsOf T<=i*Γ.P.cellsOf T:=Ay _ (by omega);rw [Nat.add_mul] at this;omega
         ·have:(i+1)*Γ.P.cellsOf T<=m*Γ.P.cellsOf T:=Ay _ (by omega);rw [Nat.add_mul] at this;omega
     obtain ⟨q1,q2⟩:=hw.setBox hk Z (by rw [abu I];exact b2) (λb M=>setRow_other w (μ k) b _ M) (by simp) rfl rfl rfl r1;refine ⟨w.setRow (μ k) (abd o (i*Γ.P.cellsOf T) xv.cells.toList).toArray,?_,Go.undef,_,D,ow,μ,Or.inr ⟨rfl,rfl⟩,q1,q2,.undef⟩;have ak:xv.cells.size=Γ.P.cellsOf T:=by simpa using J
     simp only [Instr.storeAt,Instr.sureAddr,Sem.run_bind,Sem.run_pure,Result.andThen_ok,storeVar,aa3 ab ae,ak,ne_eq,not_true_eq_false,A8];exact aa
 ·rename_i k g i E path T';cases M:(Nat.beq T T'&&aa1 Γ.P E&&agj Γ.P T x&&!(Nat.beq (Γ.P.cellsOf T) 0)) with
  | false=>rw [M] at h;cases h
  | true=>
   rw [M] at h;simp only [Af] at h;simp only [Ai,aa1,Bool.not_eq_true',Bd] at M;obtain ⟨⟨⟨aw,⟨aF,aG⟩,ax⟩,ay⟩,ao⟩:=M;have:=Aa aw;subst this;have ai:Γ.P.cellsOf T≠0:=λe=>by rw [e] at ao;cases ao
   split at h;case h_2=>cases h
   rename_i xs av;have af:=adb av;split at h;case h_2=>cases h
   rename_i y hg;cases hy:isOf Γ.P E y with
   | false=>rw [hy] at h;cases h
   | true=>
   rw [hy] at h;simp only [Af,Ac.upd.injEq,true_and] at h;obtain ⟨rfl,rfl⟩:=h;cases ha with
   | arefOld hk hg=>rw [af] at hk;cases hk;omega
   | @aref _ _ _ off _ _ _ aH cur hk hi hp hc ho=>
    rw [af] at hk;cases hk;obtain ⟨a1,a2,a3⟩:=at3 hw af hi hc;obtain ⟨f1,f2,f3⟩:=ae9 hx ay;have ah:=a1;rw [Nat.add_mul] at ah;have J:((cur.toList.drop (i*Γ.P.cellsOf E)).take (Γ.P.cellsOf E)).length=Γ.P.cellsOf E:=by simp;omega
    obtain ⟨r1,r2⟩:=ajd path E _ _ off T x xv.cells.toList y (a3.ofPV (ow:=ow) (μ:=μ) (st:=st)) J hp (by rw [f3];exact hx) f1 f2 hg;rw [J] at r2;obtain ⟨ar,ab,ae⟩:=aa5 ai;have I:i*Γ.P.cellsOf E+off+xv.cells.toList.length<=cur.toList.length:=by simp at r2 ⊢;omega
    have aa:=run_storeCells_at Γ.P (μ k) (i*Γ.P.cellsOf E+off) E xv.cells.toList 0 cur w hc (by simpa using I) f2;simp only [Nat.add_zero,List.toList_toArray] at aa;have Z:(w.setRow (μ k) (abd cur.toList (i*Γ.P.cellsOf E+off) xv.cells.toList).toArray).heap[μ k]?=some (.cells (abd cur.toList (i*Γ.P.cellsOf E+off) xv.cells.toList).toArray E (0,0)):=setRow_heap w (μ k) cur _ E _ hc;have aq:=abh r1 E hy;have aj:xs.length*Γ.P.cellsOf E<=cur.size/\∀ (j:Nat) (z:PV),xs[j]?=some z->Rep Γ.P D w E z ((cur.toList.drop (j*Γ.P.cellsOf E)).take (Γ.P.cellsOf E)):=by
     rcases hw.obj k _ af with h0 | ⟨aD,q1,q2,q3,q4,q5⟩
     ·subst h0;simp at hi
     ·rw [hc] at q1;cases q1;exact ⟨q4,q5⟩
    have ap:(abd cur.toList (i*Γ.P.cellsOf E+off) xv.cells.toList).toArray.size=cur.size:=by simpa using abu I
    have aA:∀ (m:Nat) (z:PV),(xs.set i (toPV y))[m]?=some z->Rep Γ.P D w E z ((((abd cur.toList (i*Γ.P.cellsOf E+off) xv.cells.toList).toArray).toList.drop (m*Γ.P.cellsOf E)).take (Γ.P.cellsOf E)):=by
     intro m z hm;have al:off+xv.cells.toList.length<=Γ.P.cellsOf E:=by simpa using r2
     by_cases ag:m=i
     ·subst ag;rw [List.getElem?_set_self hi] at hm;cases hm;simp only;rw [ajf (by simp;omega) al];have aC:(pack Γ.P E (abd ((cur.toList.drop (m*Γ.P.cellsOf E)).take (Γ.P.cellsOf E)) off xv.cells.toList)).cells.toList=abd ((cur.toList.drop (m*Γ.P.cellsOf E)).take (Γ.P.cellsOf E)) off xv.cells.toList:=by
       have aB:(abd ((cur.toList.drop (m*Γ.P.cellsOf E)).take (Γ.P.cellsOf E)) off xv.cells.toList).length=Γ.P.cellsOf E:=by rw [abu (by rw [J];exact al)];exact J
       refine anw (ax.imp id (λh=>aB.trans (Aa h))) (λc H=>?_);unfold abd at H;simp only [Bk] at H;rcases H with (H | H) | H
       ·exact a3.oneCell c (List.mem_of_mem_take H)
       ·exact f2 c H
       ·exact a3.oneCell c (List.mem_of_mem_drop H)
      rw [aC] at aq;exact aq
     ·rw [Ar (by omega)] at hm;simp only;rw [adn I]
      ·exact aj.2 m z hm
      ·rcases Nat.lt_or_gt_of_ne ag with h' | h'
       ·have:(m+1)*Γ.P.cellsOf E<=i*Γ.P.cellsOf E:=Ay _ (by omega);rw [Nat.add_mul] at this;omega
       ·have:(i+1)*Γ.P.cellsOf E<=m*Γ.P.cellsOf E:=Ay _ (by omega);rw [Nat.add_mul] at this;omega
    obtain ⟨q1,q2⟩:=hw.setArr (xs':=xs.set i (toPV y)) af hc ho a2 Z ap (by simp) (λb M=>setRow_other w (μ k) b _ M) (by simp) rfl rfl rfl ⟨by rw [ap];simpa using aj.1,aA⟩;refine ⟨w.setRow (μ k) (abd cur.toList (i*Γ.P.cellsOf E+off) xv.cells.toList).toArray,?_,Go.undef,_,D,ow,μ,Or.inr ⟨rfl,rfl⟩,q1,q2,.undef⟩;have ak:xv.cells.size=Γ.P.cellsOf T:=by simpa using f1
    simp only [Instr.storeAt,Instr.sureAddr,Sem.run_bind,Sem.run_pure,Result.andThen_ok,storeVar,aa3 ab ae,ak,ne_eq,not_true_eq_false,A8];exact aa
 ·simp at h
theorem ao7 (z:WRel Γ D ow μ st w) (T K E:TypeId):∃ u w',(Instr.makeMap T none).run Γ.P w=.ok u w'/\OpRes Γ D ow μ st w (.ok (.value u) w') (.mref st.length) (st++[.map K E []]):=by
 have J:∀ o,¬D w.heap.size o:=λo d=>by have:=z.dlt _ _ d;omega
 obtain ⟨H,I⟩:=z.newOwn (.map #[] 0) (.map K E []) (λm=>
  ⟨#[],0,λ_=>[],λ_=>[],by rw [aah];exact aas _ _,by rw [aah,aah],by rw [aah];exact J,rfl,λi x h=>by simp at h,λi x h=>by simp at h,⟨λi e M=>by simp at M,BornOk.nil⟩⟩)
 refine ⟨.map (some w.heap.size),w.alloc (.map #[] 0),by simp [Instr.makeMap],_,_,_,_,_,Or.inl rfl,H,I,?_⟩;have:=SRep.mref (P:=Γ.P) (D:=D) (w:=w.alloc (.map #[] 0)) (ow:=upd ow w.heap.size (some st.length)) (μ:=upd μ st.length w.heap.size) (st:=st++[.map K E []]) (k:=st.length) (K:=K) (E:=E) (es:=[])
  (by rw [Av (Nat.le_refl _)];simp)
 rwa [aah] at this
theorem ax1 (hw:WRel Γ D ow μ st w) {η:Operand->Value}{ρ:Operand->SV} (Z:∀ x,SRep Γ.P D w ow μ st (ρ x) (η x)) (o:Oper) {k:Nat}{v:SV}{b:BX}{st':List BX} (h:extV Γ.P o.op ρ k=some (v,b)) (O:aob Γ.np st k b st'):
 OpRes Γ D ow μ st w ((execOp η o).run Γ.P w) v st':=by
 have hD:∀ o,¬D w.heap.size o:=λo d=>by have:=hw.dlt _ _ d;omega
 have aa:∀ T,b=.bld T []->v=.bref k T->∀ r:Result Next,r=.ok (.value (.pointer (some ⟨w.heap.size,0,none⟩))) (w.alloc (.cells #[.pointer none,.slice none 0 0] T))->OpRes Γ D ow μ st w r v st':=by
  intro T J hv r hr;subst J;subst hv;obtain ⟨h0,M,h2⟩:=hw.newOwnAt (.cells #[.pointer none,.slice none 0 0] T) (.bld T []) (λm=>show BldRep _ _ _ _ _ _ _ _ from
   ⟨.pointer none,.slice none 0 0,by rw [aah];exact aas _ _,Or.inl rfl,by rw [aah,aah],by rw [aah];exact hD,Or.inl ⟨rfl,rfl⟩⟩) O
  refine ⟨_,_,_,_,_,Or.inl hr,M,h2,?_⟩;have:=SRep.bref (P:=Γ.P) (D:=D) (w:=w.alloc (.cells #[.pointer none,.slice none 0 0] T)) (ow:=upd ow w.heap.size (some k)) (μ:=upd μ k w.heap.size) (k:=k) (T:=T) (TB:=T) (bs:=[]) h0;rwa [aah] at this
 have ab:∀ T s,b=.box T s->v=.ref k [] T->∀ (H:List Value),H.length=Γ.P.cellsOf T->SRep Γ.P D w ow μ st s (pack Γ.P T H)->∀ r:Result Next,r=.ok (.value (.pointer (some ⟨w.heap.size,0,none⟩))) (w.alloc (.cells H.toArray T))->OpRes Γ D ow μ st w r v st':=by
  intro T s J hv H hl hs r hr;subst J;subst hv;obtain ⟨h0,M,h2⟩:=hw.newOwnAt (.cells H.toArray T) (.box T s) (λm=>
   ⟨H,T,by rw [aah];exact aas _ _,hl,by rw [aah,aah],by rw [aah];exact hD,hs.mono m⟩) O
  refine ⟨_,_,_,_,_,Or.inl hr,M,h2,?_⟩;have:=SRep.ref (P:=Γ.P) (D:=D) (w:=w.alloc (.cells H.toArray T)) (ow:=upd ow w.heap.size (some k)) (μ:=upd μ k w.heap.size) (k:=k) (path:=[]) (T:=T) (TB:=T) (v:=s) (off:=0) h0 rfl;rwa [aah] at this
 unfold extV at h
 split at h
 ·rename_i T I;cases J:afc Γ.P T with
  | true=>rw [J] at h;simp only [Af,Al,Prod.mk.injEq] at h;simp only [afc,Ai] at J;obtain ⟨i,hi,hz⟩:=ake J.2;exact aa T h.2.symm h.1.symm _ (by simp [execOp,I,Instr.alloc,zeroValue,typeInfo,hi,hz,newVar,newRow,Value.cells])
  | false=>
   rw [J] at h;simp only [Ah] at h;cases hz:ack Γ.P T with
   | false=>rw [hz] at h;cases h
   | true=>rw [hz] at h;simp only [Af,Al,Prod.mk.injEq] at h;obtain ⟨i,z,hi,ad,ai,ag,ae,af,ah⟩:=abw (Γ:=Γ) (D:=D) (ow:=ow) (μ:=μ) (st:=st) (w:=w) hz;exact ab T _ h.2.symm h.1.symm z.cells.toList (by simpa using ag) (by rw [<-ae];exact af) _ (by simp [execOp,I,Instr.alloc,zeroValue,typeInfo,hi,ad,newVar,newRow])
 ·rename_i T x I;cases J:(afc Γ.P T&&aiu Γ.P 3 T (ρ x)) with
  | true=>rw [J] at h;simp only [Af,Al,Prod.mk.injEq] at h;simp only [Ai] at J;have hv:=anj 3 T _ _ (Z x) J.2;exact aa T h.2.symm h.1.symm _ (by simp [execOp,I,hv,Instr.box,newVar,newRow,Value.cells])
  | false=>
   rw [J] at h;simp only [Ah] at h;cases hf:agj Γ.P T (ρ x) with
   | false=>rw [hf] at h;cases h
   | true=>rw [hf] at h;simp only [Af,Al,Prod.mk.injEq] at h;obtain ⟨M,h2,h3⟩:=ae9 (Z x) hf;exact ab T _ h.2.symm h.1.symm (η x).cells.toList M (by rw [h3];exact Z x) _ (by simp [execOp,I,Instr.box,newVar,newRow])
 ·rename_i T r I;split at h
  ·rename_i K E hT;simp only [Al,Prod.mk.injEq] at h;obtain ⟨rfl,rfl⟩:=h;obtain ⟨h0,M,h2⟩:=hw.newOwnAt (.map #[] 0) (.map K E []) (λm=>
    ⟨#[],0,λ_=>[],λ_=>[],by rw [aah];exact aas _ _,by rw [aah,aah],by rw [aah];exact hD,rfl,λi x hx=>by simp at hx,λi x hx=>by simp at hx,⟨λi e he=>by simp at he,BornOk.nil⟩⟩) O
   refine ⟨.map (some w.heap.size),w.alloc (.map #[] 0),_,_,_,Or.inl (by simp [execOp,I,Instr.makeMap]),M,h2,?_⟩;have:=SRep.mref (P:=Γ.P) (D:=D) (w:=w.alloc (.map #[] 0)) (ow:=upd ow w.heap.size (some k)) (μ:=upd μ k w.heap.size) (k:=k) (K:=K) (E:=E) (es:=[]) h0;rwa [aah] at this
  ·cases h
 ·cases h
theorem WRel.setMap (z:WRel Γ D ow μ st w) {k:Nat}{K E:TypeId}{es es':List (PV×PV)} (M:st[k]?=some (.map K E es)) {w':World}{ents:Array MapEntry}{clock:Nat}{kc vc:Nat->List Value}
 (hh:w'.heap[μ k]?=some (.map ents clock)) (hl:ents.size=es'.length) (ho:∀ b,b≠μ k->w'.heap[b]?=w.heap[b]?) (ae:w'.heap.size=w.heap.size)
 (al:w'.os=w.os) (an:w'.tape=w.tape) (am:w'.output=w.output)
 (h1:∀ (i:Nat) (x:PV×PV),es'[i]?=some x->Rep Γ.P D w K x.1 (kc i)) (h2:∀ (i:Nat) (x:PV×PV),es'[i]?=some x->Rep Γ.P D w E x.2 (vc i))
 (h3:atz Γ.P K E kc vc ents clock):
 WRel Γ D ow μ (st.set k (.map K E es')) w'/\Moves D w ow μ st D w' ow μ (st.set k (.map K E es')):=by
 have ak:=(List.getElem?_eq_some_iff.1 M).1
 obtain ⟨ai,ah,aq,ar,b1,Z,b4,_⟩:=z.map k K E es M
 have ne:∀ {j:Nat}{y:BX},st[j]?=some y->j≠k->(st.set k (.map K E es'))[j]?=some y:=λe h=>by rw [Ar (by omega)];exact e
 have H:(st.set k (.map K E es'))[k]?=some (.map K E es'):=by rw [List.getElem?_set_self ak]
 have aj:Keeps D w w':=Keeps.of_heap λb o d=>ho b (λe=>by subst e;exact b4 o d)
 have m:Moves D w ow μ st D w' ow μ (st.set k (.map K E es')):=by
  refine ⟨λ_ _ d=>d,aj,λj T x e=>⟨rfl,?_⟩,λj K E es e=>⟨rfl,?_⟩,λj b e hs=>⟨rfl,b,?_,rfl⟩,λj E g xs e=>?_,λj g e=>?_⟩
  ·by_cases h:j=k
   ·subst h;rw [M] at e;cases e
   ·exact ⟨_,ne e h⟩
  ·by_cases h:j=k
   ·subst h;rw [M] at e;cases e;exact ⟨_,H⟩
   ·exact ⟨_,ne e h⟩
  ·by_cases h:j=k
   ·subst h;rw [M] at e;cases e;exact absurd rfl hs
   ·exact ne e h
  ·by_cases h:j=k
   ·subst h;rw [M] at e;cases e
   ·refine ⟨g,xs,ne e h,Nat.le_refl _,λ_=>⟨rfl,λcur hc ad=>⟨rfl,ad,cur,(ho _ (λI=>?_)).trans hc,rfl⟩⟩⟩;rw [I,Z] at ad;cases ad;exact h rfl
  ·by_cases h:j=k
   ·subst h;rw [M] at e;cases e
   ·refine ⟨g,ne e h,Nat.le_refl _,λ_ b ob=>⟨ho b (λhb=>?_),ob,λ_ d=>d⟩⟩;subst hb;rw [Z] at ob;cases ob;exact h rfl
 have O:∀ j,j<Γ.np->∃ b,(st.set k (.map K E es'))[j]?=some b/\b.kind=Γ.K0 j:=by
  intro j h;obtain ⟨x,hx,p1⟩:=z.par j h;by_cases ag:j=k
  ·subst ag;rw [M] at hx;cases hx;exact ⟨_,H,p1⟩
  ·exact ⟨x,ne hx ag,p1⟩
 refine ⟨⟨λj T x e=>?_,λj K E es e=>?_,λj x e=>?_,λb j o=>?_,λb o d=>by rw [ae];exact z.dlt b o d,al.trans z.os,an.trans z.tape,am.trans z.output,by rw [ae];exact z.hs,λb hb hn=>?_,z.dom0,z.domN,z.owN,by simpa using z.np,z.mu0,O,λb j y ob e hy o d=>?_,z.keep0.trans m.keeps z.dom0,z.arr0_moves m O⟩,m⟩
 ·by_cases h:j=k
  ·subst h;rw [H] at e;cases e
  ·rw [Ar (by omega)] at e;obtain ⟨c,T1,q1,q2,q3,q4,q5⟩:=z.box j T x e;have ab:μ j≠μ k:=λI=>by rw [I,Z] at q3;cases q3;exact h rfl
   exact BoxRep.mono ⟨c,T1,q1,q2,q3,q4,q5⟩ m rfl (ho _ ab) q3 q4
 ·by_cases h:j=k
  ·subst h;rw [H] at e;cases e;exact ⟨ents,clock,kc,vc,hh,Z,b4,hl,λi x a=>(h1 i x a).mono m.dom m.keeps,λi x a=>(h2 i x a).mono m.dom m.keeps,h3⟩
  ·rw [Ar (by omega)] at e;obtain ⟨aa,J,ao,ap,q1,q2,q3⟩:=z.map j _ _ _ e;have ab:μ j≠μ k:=λI=>by rw [I,Z] at q2;cases q2;exact h rfl
   exact OMapRep.mono ⟨aa,J,ao,ap,q1,q2,q3⟩ m.dom m.keeps rfl (ho _ ab) q2 q3.1
 ·by_cases h:j=k
  ·subst h;rw [H] at e;cases e;trivial
  ·rw [Ar (by omega)] at e;refine (z.obj j x e).mono m.dom m.keeps (λ_=>rfl) (λc oc=>⟨ho c (λhb=>?_),oc,λ_ d=>d⟩);subst hb;rw [Z] at oc;cases oc;exact h rfl
 ·have:=z.owlt b j o;rw [ae];simpa using this
 ·by_cases af:b=μ k
  ·subst af;have:=z.owN _ _ Z hb;rw [hn] at this;cases this
  ·exact (ho b af).trans (z.old b hb hn)
 ·by_cases h:j=k
  ·subst h;exact z.lone b j _ ob M (by simp) o d
  ·rw [Ar (by omega)] at e;exact z.lone b j y ob e hy o d
theorem aum {d:TypeDesc}{x y:PV}{a b:Value} (I:Key1 d x a) (z:Key1 d y b) (h:adv y x=true):a=b:=by
 cases I with
 | str s o=>subst o;cases z with
  | str t _=>simp [adv] at h;subst h;rfl
  | int _ _ h=>cases h
  | bool _ h=>cases h
 | int k n o=>subst o;cases z with
  | int J m H=>cases H;simp [adv] at h;subst h;rfl
  | str _ h=>cases h
  | bool _ h=>cases h
 | bool p o=>subst o;cases z with
  | bool q _=>simp [adv] at h;subst h;rfl
  | int _ _ h=>cases h
  | str _ h=>cases h
theorem aqt {d:TypeDesc}{x:PV}{a:Value} (h:Key1 d x a) (n:Nat):Instr.sameBits n a a=true:=by cases h<;>simp [Instr.sameBits,at8]
theorem ays {P:Program}:∀ {n:Nat}{I:List Field}{xs:List PV}{cs:List Value},KeysL P n I xs cs->∀ {ys:List PV}{es:List Value},KeysL P n I ys es->alx ys xs=true->cs=es:=by
 intro n I xs cs h;induction h with
 | nil n=>intro ys es o _;cases o;rfl
 | @cons n f d fs x xs a cs ho hn O Z _ ih=>
  intro ys es o H;cases o with
  | @cons _ _ d' _ y ys b es ab aa z M o=>
   rw [O] at z;cases z;simp only [alx] at H;cases J:adv y x with
   | false=>rw [J] at H;cases H
   | true=>rw [J] at H;rw [aum Z M J,ih o H]
theorem av6 {P:Program} (m:Nat):∀ {n:Nat}{o:List Field}{xs:List PV}{cs:List Value},KeysL P n o xs cs->(cs.zip cs).all (λ(x,y)=>Instr.sameBits m x y)=true:=by
 intro n o xs cs h;induction h with
 | nil n=>rfl
 | cons M J I z _ H=>simp only [List.zip_cons_cons,Bj,aqt z,Bool.true_and];exact H
theorem azr {P:Program}{K:TypeId}{d:TypeDesc}{x y:PV}{a b:Value} (M:KeyIs P K d x a) (O:KeyIs P K d y b) (h:ao2 y x=true) (w:World):(Instr.keyThatStays a b).run P w=.ok b w/\a=b:=by
 have Z:∀ {H:Array Field}{x:PV}{a:Value},Key1 (.struct H) x a->False:=λh=>by cases h<;>rename_i h<;>cases h
 have e:a=b:=by
  cases M with
  | one o=>
   cases O with
   | one z=>
    have e1:ao2 y x=adv y x:=by cases z<;>rfl
    rw [e1] at h;exact aum o z h
   | agg H _ _ z=>subst z;exact absurd o (λh=>Z h)
  | agg H xs cs o z I=>
   subst o;cases O with
   | one J=>exact absurd J (λh=>Z h)
   | agg aa ys es J h5 h6=>cases J;rw [ays I h6 h]
 subst e;refine ⟨?_,rfl⟩;have hb:Instr.sameBits 10000 a a=true:=by
  cases M with
  | one o=>exact aqt o _
  | agg H xs cs o z I=>have:=av6 9999 I;simp only [Instr.sameBits,List.toList_toArray,beq_self_eq_true,Bool.true_and];exact this
 simp [Instr.keyThatStays,hb]
theorem ag3 (hw:WRel Γ D ow μ st w) (T:TypeId) (m k x:SV) (mv M xv:Value) (v:SV) (st':List BX) (hm:SRep Γ.P D w ow μ st m mv) (hk:SRep Γ.P D w ow μ st k M) (hx:SRep Γ.P D w ow μ st x xv)
 (h:abq Γ.P T st m k x=.upd true v st'):∃ w',(Instr.mapUpdate T mv M xv).run Γ.P w=.ok () w'/\OpRes Γ D ow μ st w (.ok .skip w') v st':=by
 unfold abq at h
 split at h
 ·rename_i K E hT;cases hc:(keyT Γ.P K&&isOf Γ.P K k&&isOf Γ.P E x) with
  | false=>rw [hc] at h;simp at h
  | true=>
   rw [hc] at h;simp only [Af] at h;simp only [Ai] at hc;obtain ⟨⟨c1,c2⟩,c3⟩:=hc;split at h
   ·rename_i j;split at h
    ·rename_i K' E' es hj;cases Z:(Nat.beq K K'&&Nat.beq E E') with
     | false=>rw [Z] at h;simp at h
     | true=>
      rw [Z] at h;simp only [Ai] at Z;have:=Aa Z.1;subst this;have:=Aa Z.2;subst this;simp only [Af,Ac.upd.injEq,true_and] at h;obtain ⟨rfl,rfl⟩:=h;cases hm;obtain ⟨ents,clock,kc,vc,r1,r2,r3,r4,r5,r6,r7⟩:=hw.map j K E es hj;have ak:=abh hk K c2;have ai:=aiv hk c2;have al:=abh hx E c3;have aj:=aiv hx c3;obtain ⟨d,hd,J⟩:=aix c1 ak;rw [ai] at J;have ab:∀ (i:Nat) (e:MapEntry) (y:PV×PV),ents.toList[i]?=some e->es[i]?=some y->KeyIs Γ.P K d y.1 e.key:=by intro i e y he hy;obtain ⟨d',ag,ao⟩:=aix c1 (r5 i y hy);rw [hd] at ag;cases ag;rw [(r7.1 i e (by simpa using he)).1];exact ao
      have ah:μ j<w.heap.size:=(hw.owlt _ _ r2).1;rcases anq hd J ents.toList es 0 (by simpa using r4) ab with ⟨i,y,e,q1,q2,q3,q4,q5,q6⟩ | ⟨q1,q2,q6⟩
      ·have aa:ents[i]?=some e:=by simpa using q2
       have am:=ab i e y q2 q1;obtain ⟨s1,s2⟩:=azr am J q3 w;have ad:∀ (n:Nat),(ents.modify i λe=>{ e with key:=M,val:=xv })[n]?=if n=i then some { e with key:=M,val:=xv } else ents[n]?:=by
        intro n;rw [Array.getElem?_modify];by_cases o:i=n
        ·subst o;simp [aa]
        ·rw [if_neg o,if_neg (λh=>o h.symm)]
       refine ⟨{ w with heap:=w.heap.setIfInBounds (μ j) (.map (ents.modify i λe=>{ e with key:=M,val:=xv }) clock) },?_,?_⟩
       ·simp only [Nat.zero_add] at q5;have an:((ents[i]?).map (·.key)).getD M=e.key:=by rw [aa];rfl
        simp only [Instr.mapUpdate,Sem.run_bind,run_underlying hT,Result.andThen_ok,getObj,Sem.run,r1,adl hd J,aej hd q5,an,s1,setObj]
       ·rw [q6];have O:=hw.setMap hj (w':={ w with heap:=w.heap.setIfInBounds (μ j) (.map (ents.modify i λe=>{ e with key:=M,val:=xv }) clock) }) (ents:=ents.modify i λe=>{ e with key:=M,val:=xv }) (clock:=clock)
         (es':=es.set i (y.1,toPV x)) (kc:=kc) (vc:=upd vc i xv.cells.toList) (by simp [ah]) (by simpa using r4) (λb Z=>by simp [Array.getElem?_setIfInBounds_ne (λe=>Z e.symm)]) (by simp) rfl rfl rfl
        refine (λh1 h2 h3=>by obtain ⟨u1,u2⟩:=O h1 h2 h3;exact ⟨_,_,_,_,_,Or.inr ⟨rfl,rfl⟩,u1,u2,.undef⟩) (λn z H=>?_) (λn z H=>?_) (And.intro (λn f I=>?_) ?_)
        ·by_cases o:n=i
         ·subst o;rw [List.getElem?_set_self (List.getElem?_eq_some_iff.1 q1).1] at H;cases H;exact r5 n y q1
         ·rw [Ar (by omega)] at H;exact r5 n z H
        ·by_cases o:n=i
         ·subst o;rw [List.getElem?_set_self (List.getElem?_eq_some_iff.1 q1).1] at H;cases H;rw [aah];exact al
         ·rw [Ar (by omega)] at H;rw [aao _ _ o];exact r6 n z H
        ·rw [ad] at I;by_cases o:n=i
         ·subst o;rw [if_pos rfl] at I;cases I;refine ⟨?_,by rw [aah];exact aj.symm⟩;show M=_;rw [<-s2];exact (r7.1 n e aa).1
         ·rw [if_neg o] at I;rw [aao _ _ o];exact r7.1 n f I
        ·refine r7.2.same λn f I=>?_;rw [ad] at I;by_cases o:n=i
         ·subst o;rw [if_pos rfl] at I;cases I;exact ⟨e,aa,rfl⟩
         ·rw [if_neg o] at I;exact ⟨f,I,rfl⟩
      ·refine ⟨{ w with heap:=w.heap.setIfInBounds (μ j) (.map (ents.push { key:=M,val:=xv,born:=clock }) (clock+1)) },?_,?_⟩
       ·simp only [Instr.mapUpdate,Sem.run_bind,run_underlying hT,Result.andThen_ok,getObj,Sem.run,r1,adl hd J,aej hd q2,setObj]
       ·rw [q6];have af:∀ n,(ents.push { key:=M,val:=xv,born:=clock })[n]?=if n=ents.size then some { key:=M,val:=xv,born:=clock } else ents[n]?:=λn=>Array.getElem?_push
        have O:=hw.setMap hj (w':={ w with heap:=w.heap.setIfInBounds (μ j) (.map (ents.push { key:=M,val:=xv,born:=clock }) (clock+1)) }) (ents:=ents.push { key:=M,val:=xv,born:=clock }) (clock:=clock+1)
         (es':=es++[(toPV k,toPV x)]) (kc:=upd kc ents.size M.cells.toList) (vc:=upd vc ents.size xv.cells.toList) (by simp [ah]) (by simp [r4]) (λb Z=>by simp [Array.getElem?_setIfInBounds_ne (λe=>Z e.symm)]) (by simp) rfl rfl rfl
        refine (λh1 h2 h3=>by obtain ⟨u1,u2⟩:=O h1 h2 h3;exact ⟨_,_,_,_,_,Or.inr ⟨rfl,rfl⟩,u1,u2,.undef⟩) (λn z H=>?_) (λn z H=>?_) (And.intro (λn f I=>?_) ?_)
        ·by_cases o:n<es.length
         ·rw [Au o] at H;rw [aao _ _ (by omega)];exact r5 n z H
         ·have ae:n=ents.size:=by have:=(List.getElem?_eq_some_iff.1 H).1;simp at this;omega
          subst ae;rw [r4,Av (Nat.le_refl _)] at H;simp at H;subst H;rw [aah];exact ak
        ·by_cases o:n<es.length
         ·rw [Au o] at H;rw [aao _ _ (by omega)];exact r6 n z H
         ·have ae:n=ents.size:=by have:=(List.getElem?_eq_some_iff.1 H).1;simp at this;omega
          subst ae;rw [r4,Av (Nat.le_refl _)] at H;simp at H;subst H;rw [aah];exact al
        ·rw [af] at I;by_cases o:n=ents.size
         ·subst o;rw [if_pos rfl] at I;cases I;rw [aah,aah];exact ⟨ai.symm,aj.symm⟩
         ·rw [if_neg o] at I;rw [aao _ _ o,aao _ _ o];exact r7.1 n f I
        ·exact r7.2.push _ rfl
    ·simp at h
   ·simp at h
 ·simp at h
end
end Go.Ab
