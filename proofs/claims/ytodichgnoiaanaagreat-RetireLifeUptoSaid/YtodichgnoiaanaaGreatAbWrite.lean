/- Operations that write. -/
import Derived.Test.YtodichgnoiaanaaGreatAbMap
set_option linter.unusedVariables false
set_option linter.unusedSimpArgs false
set_option linter.unnecessarySimpa false
namespace Go.Ab
open Go
section
variable {Γ:Ctx}{D:Dom}{ow:Own}{μ:Nat->Nat}{st:List BX}{w:World}
theorem a4h (hw:WRel Γ D ow μ st w) (T:TypeId) (s:SV) (cells:List Value) (hl:cells.length=Γ.P.cellsOf T) (hs:SRep Γ.P D w ow μ st s (pack Γ.P T cells)) (r:Result Next)
 (hr:r=.ok (.value (.pointer (some ⟨w.heap.size,0,none⟩))) (w.alloc (.cells cells.toArray T))):OpRes Γ D ow μ st w r (.ref st.length [] T) (st++[.box T s]):=by
 have hD:∀ o,¬D w.heap.size o:=fun o d=>by have:=hw.dlt _ _ d;omega
 obtain ⟨h1,h2⟩:=hw.newOwn (.cells cells.toArray T) (.box T s) (fun m=>
  ⟨cells,T,by rw [aae];exact aar _ _,hl,by rw [aae,aae],by rw [aae];exact hD,hs.mono m⟩)
 refine ⟨_,_,_,_,_,Or.inl hr,h1,h2,?_⟩
 have:=SRep.ref (P:=Γ.P) (D:=D) (w:=w.alloc (.cells cells.toArray T)) (ow:=upd ow w.heap.size (some st.length)) (μ:=upd μ st.length w.heap.size) (st:=st++[.box T s]) (k:=st.length) (path:=[]) (T:=T) (TB:=T) (v:=s) (off:=0)
  (by rw [List.getElem?_append_right (Nat.le_refl _)];simp) rfl
 rwa [aae] at this
theorem akl {P:Program}{T:TypeId} (h:as3 P T=true):∃ i,P.info? T=some i/\i.zero=some (.agg #[.pointer none,.slice none 0 0]):=by
 unfold as3 at h
 split at h
 ·rename_i cs hz
  cases hi:P.info? T with
  | none=>rw [hi] at hz;cases hz
  | some i=>
   rw [hi] at hz
   refine ⟨i,rfl,?_⟩
   simp only [Option.bind_some] at hz
   rw [hz]
   split at h
   ·rename_i hcs
    have:cs=#[.pointer none,.slice none 0 0]:=by
     cases cs;simpa using hcs
    rw [this]
   ·cases h
 ·cases h
theorem asw (hw:WRel Γ D ow μ st w) (T:TypeId) {v:SV}{st':List BX} (h:agd Γ.P T st=.upd true v st'):∃ u w',(Instr.alloc T true (.tuple #[])).run Γ.P w=.ok u w'/\
 OpRes Γ D ow μ st w (.ok (.value u) w') v st':=by
 unfold agd at h
 cases hb:ae9 Γ.P T with
 | true=>
  rw [hb] at h
  simp only [cond_true,Ac.upd.injEq,true_and] at h
  obtain ⟨rfl,rfl⟩:=h
  simp only [ae9,Bool.and_eq_true] at hb
  obtain ⟨i,hi,hz⟩:=akl hb.2
  have hD:∀ o,¬D w.heap.size o:=fun o d=>by have:=hw.dlt _ _ d;omega
  obtain ⟨h1,h2⟩:=hw.newOwn (.cells #[.pointer none,.slice none 0 0] T) (.bld T []) (fun m=>show auy _ _ _ _ _ _ _ _ from
   ⟨.pointer none,.slice none 0 0,by rw [aae];exact aar _ _,Or.inl rfl,by rw [aae,aae],by rw [aae];exact hD,Or.inl ⟨rfl,rfl⟩⟩)
  refine ⟨.pointer (some ⟨w.heap.size,0,none⟩),w.alloc (.cells #[.pointer none,.slice none 0 0] T),by simp [Instr.alloc,zeroValue,typeInfo,hi,hz,newVar,newRow,Value.cells],_,_,_,_,_,Or.inl rfl,h1,h2,?_⟩
  have:=SRep.bref (P:=Γ.P) (D:=D) (w:=w.alloc (.cells #[.pointer none,.slice none 0 0] T)) (ow:=upd ow w.heap.size (some st.length)) (μ:=upd μ st.length w.heap.size) (st:=st++[.bld T []]) (k:=st.length) (T:=T) (TB:=T) (bs:=[])
   (by rw [List.getElem?_append_right (Nat.le_refl _)];simp)
  rwa [aae] at this
 | false=>
  rw [hb] at h
  simp only [cond_false] at h
  cases hz:ab5 Γ.P T with
  | false=>rw [hz] at h;cases h
  | true=>
   rw [hz] at h
   simp only [cond_true,Ac.upd.injEq,true_and] at h
   obtain ⟨rfl,rfl⟩:=h
   obtain ⟨i,z,hi,hiz,his,hzs,hze,hzr,hzo2⟩:=abq (Γ:=Γ) (D:=D) (ow:=ow) (μ:=μ) (st:=st) (w:=w) hz
   refine ⟨_,_,?_,a4h hw T _ z.cells.toList (by simpa using hzs) (by rw [<-hze];exact hzr) _ rfl⟩
   simp [Instr.alloc,zeroValue,typeInfo,hi,hiz,newVar,newRow]
theorem ayq (hw:WRel Γ D ow μ st w) (T:TypeId) (s:SV) (v:Value) (hs:SRep Γ.P D w ow μ st s v) (hf:af9 Γ.P T s=true):∃ u w',(Instr.box T v).run Γ.P w=.ok u w'/\
 OpRes Γ D ow μ st w (.ok (.value u) w') (.ref st.length [] T) (st++[.box T s]):=by
 obtain ⟨h1,h2,h3⟩:=ae6 hs hf
 refine ⟨_,_,?_,a4h hw T s v.cells.toList h1 (by rw [h3];exact hs) _ rfl⟩
 simp [Instr.box,newVar,newRow]
theorem an6:∀ (n:Nat) (T:TypeId) (s:SV) (v:Value),SRep Γ.P D w ow μ st s v->aiy Γ.P n T s=true->v=.agg #[.pointer none,.slice none 0 0]:=by
 intro n
 induction n with
 | zero=>intro T s v _ h;simp [aiy] at h
 | succ n ih=>
  intro T s v hs h
  unfold aiy at h
  split at h
  ·rename_i ds T' fs hT
   simp only [Bool.and_eq_true] at h
   obtain ⟨h0,h⟩:=h
   have:=Nat.eq_of_beq_eq_true h0;subst this
   cases hs with
   | @agg _ ds' _ cs hT1 hl ho hv hp=>
    rw [hT] at hT1;cases hT1
    split at h
    ·rename_i f x hds
     simp only [Bool.and_eq_true] at h
     obtain ⟨⟨⟨h1,h2⟩,h3⟩,h4⟩:=h
     have h1:=Nat.eq_of_beq_eq_true h1
     have h2:=Nat.eq_of_beq_eq_true h2
     have hf:ds[0]?=some f:=by
      have:ds.toList[0]?=some f:=by rw [hds];rfl
      simpa using this
     have hx:=hp 0 x f rfl hf
     rw [h1,List.drop_zero,h2,<-hl,List.take_length] at hx
     have:=ih f.type x _ hx h4
     simp only [pack,h3,if_true,Value.agg.injEq] at this
     rw [this]
    ·rename_i f g hds
     simp only [Bool.and_eq_true,Bool.not_eq_true'] at h
     obtain ⟨⟨⟨⟨⟨⟨h1,h2⟩,h3⟩,h4⟩,h5⟩,h6⟩,h7⟩:=h
     have h3:=Nat.eq_of_beq_eq_true h3
     have h4:=Nat.eq_of_beq_eq_true h4
     have h5:=Nat.eq_of_beq_eq_true h5
     have h6:=Nat.eq_of_beq_eq_true h6
     have h7:=Nat.eq_of_beq_eq_true h7
     have hf:ds[0]?=some f:=by
      have:ds.toList[0]?=some f:=by rw [hds];rfl
      simpa using this
     have hg:ds[1]?=some g:=by
      have:ds.toList[1]?=some g:=by rw [hds];rfl
      simpa using this
     have hx:=hp 0 _ f rfl hf
     have hy:=hp 1 _ g rfl hg
     rw [h7] at hl
     match cs,hl with
     | [a,b],_=>
      simp only [h3,h5,List.drop_zero,List.take,pack,h1,Bool.false_eq_true,if_false,List.headD] at hx
      simp only [h4,h6,List.drop,List.take,pack,h2,Bool.false_eq_true,if_false,List.headD] at hy
      cases hx
      cases hy
      rfl
    ·cases h
  ·cases h
theorem as4 (hw:WRel Γ D ow μ st w) (T:TypeId) (s:SV) (xv:Value) (hs:SRep Γ.P D w ow μ st s xv) {v:SV}{st':List BX} (h:aqq Γ.P T s st=.upd true v st'):∃ u w',(Instr.box T xv).run Γ.P w=.ok u w'/\OpRes Γ D ow μ st w (.ok (.value u) w') v st':=by
 unfold aqq at h
 cases hb:(ae9 Γ.P T&&aiy Γ.P 3 T s) with
 | true=>
  rw [hb] at h
  simp only [cond_true,Ac.upd.injEq,true_and] at h
  obtain ⟨rfl,rfl⟩:=h
  simp only [Bool.and_eq_true] at hb
  have hv:=an6 3 T s xv hs hb.2
  subst hv
  have hD:∀ o,¬D w.heap.size o:=fun o d=>by have:=hw.dlt _ _ d;omega
  obtain ⟨h1,h2⟩:=hw.newOwn (.cells #[.pointer none,.slice none 0 0] T) (.bld T []) (fun m=>show auy _ _ _ _ _ _ _ _ from
   ⟨.pointer none,.slice none 0 0,by rw [aae];exact aar _ _,Or.inl rfl,by rw [aae,aae],by rw [aae];exact hD,Or.inl ⟨rfl,rfl⟩⟩)
  refine ⟨.pointer (some ⟨w.heap.size,0,none⟩),w.alloc (.cells #[.pointer none,.slice none 0 0] T),by simp [Instr.box,newVar,newRow,Value.cells],_,_,_,_,_,Or.inl rfl,h1,h2,?_⟩
  have:=SRep.bref (P:=Γ.P) (D:=D) (w:=w.alloc (.cells #[.pointer none,.slice none 0 0] T)) (ow:=upd ow w.heap.size (some st.length)) (μ:=upd μ st.length w.heap.size) (st:=st++[.bld T []]) (k:=st.length) (T:=T) (TB:=T) (bs:=[])
   (by rw [List.getElem?_append_right (Nat.le_refl _)];simp)
  rwa [aae] at this
 | false=>
  rw [hb] at h
  simp only [cond_false] at h
  cases hf:af9 Γ.P T s with
  | false=>rw [hf] at h;cases h
  | true=>
   rw [hf] at h
   simp only [cond_true,Ac.upd.injEq,true_and] at h
   obtain ⟨rfl,rfl⟩:=h
   exact ayq hw T s xv hs hf
theorem WRel.setBox (hw:WRel Γ D ow μ st w) {k:Nat}{TB:TypeId}{s s':SV} (hk:st[k]?=some (.box TB s)) {w':World}{cells':List Value}{T':TypeId}
 (hh:w'.heap[μ k]?=some (.cells cells'.toArray T' (0,0))) (hl:cells'.length=Γ.P.cellsOf TB) (ho:∀ b,b≠μ k->w'.heap[b]?=w.heap[b]?) (hsz:w'.heap.size=w.heap.size)
 (hos:w'.os=w.os) (htp:w'.tape=w.tape) (hou:w'.output=w.output) (hs:SRep Γ.P D w ow μ st s' (pack Γ.P TB cells')):
 WRel Γ D ow μ (st.set k (.box TB s')) w'/\Moves D w ow μ st D w' ow μ (st.set k (.box TB s')):=by
 have hlt:=(List.getElem?_eq_some_iff.1 hk).1
 obtain ⟨c0,T0,b1,b2,b3,b4,b5⟩:=hw.box k TB s hk
 have ne:∀ {j:Nat}{y:BX},st[j]?=some y->j≠k->(st.set k (.box TB s'))[j]?=some y:=fun e hj=>by rw [List.getElem?_set_ne (by omega)];exact e
 have same:(st.set k (.box TB s'))[k]?=some (.box TB s'):=by rw [List.getElem?_set_self hlt]
 have hkp:Keeps D w w':=Keeps.of_heap fun b o d=>ho b (fun e=>by subst e;exact b4 o d)
 have m:Moves D w ow μ st D w' ow μ (st.set k (.box TB s')):=by
  refine ⟨fun _ _ d=>d,hkp,fun j T x e=>⟨rfl,?_⟩,fun j K E es e=>⟨rfl,?_⟩,fun j b e hs=>⟨rfl,b,?_,rfl⟩,fun j E g xs e=>?_,fun j g e=>?_⟩
  ·by_cases hj:j=k
   ·subst hj;rw [hk] at e;cases e;exact ⟨_,same⟩
   ·exact ⟨_,ne e hj⟩
  ·by_cases hj:j=k
   ·subst hj;rw [hk] at e;cases e
   ·exact ⟨_,ne e hj⟩
  ·by_cases hj:j=k
   ·subst hj;rw [hk] at e;cases e;exact absurd rfl hs
   ·exact ne e hj
  ·by_cases hj:j=k
   ·subst hj;rw [hk] at e;cases e
   ·refine ⟨g,xs,ne e hj,Nat.le_refl _,fun _=>⟨rfl,fun cur hc hoj=>⟨rfl,hoj,cur,(ho _ (fun hmu=>?_)).trans hc,rfl⟩⟩⟩
    rw [hmu,b3] at hoj;cases hoj;exact hj rfl
  ·by_cases hj:j=k
   ·subst hj;rw [hk] at e;cases e
   ·refine ⟨g,ne e hj,Nat.le_refl _,fun _ b ob=>⟨ho b (fun hb=>?_),ob,fun _ d=>d⟩⟩
    subst hb;rw [b3] at ob;cases ob;exact hj rfl
 have par':∀ j,j<Γ.np->∃ b,(st.set k (.box TB s'))[j]?=some b/\b.kind=Γ.K0 j:=by
  intro j hj
  obtain ⟨x,hx,p1⟩:=hw.par j hj
  by_cases hjk:j=k
  ·subst hjk;rw [hk] at hx;cases hx;exact ⟨_,same,p1⟩
  ·exact ⟨x,ne hx hjk,p1⟩
 refine ⟨⟨fun j T x e=>?_,fun j K E es e=>?_,fun j x e=>?_,fun b j o=>?_,fun b o d=>by rw [hsz];exact hw.dlt b o d,hos.trans hw.os,htp.trans hw.tape,hou.trans hw.output,by rw [hsz];exact hw.hs,fun b hb hn=>?_,hw.dom0,hw.domN,hw.owN,by simpa using hw.np,hw.mu0,par',fun b j y ob e hy o d=>?_,hw.keep0.trans m.keeps hw.dom0,hw.arr0_moves m par'⟩,m⟩
 ·by_cases hj:j=k
  ·subst hj
   rw [same] at e;cases e
   exact ⟨cells',T',hh,hl,b3,b4,hs.mono m⟩
  ·rw [List.getElem?_set_ne (by omega)] at e
   obtain ⟨c,T1,q1,q2,q3,q4,q5⟩:=hw.box j T x e
   have hne:μ j≠μ k:=fun hmu=>by rw [hmu,b3] at q3;cases q3;exact hj rfl
   exact BoxRep.mono ⟨c,T1,q1,q2,q3,q4,q5⟩ m rfl (ho _ hne) q3 q4
 ·by_cases hj:j=k
  ·subst hj;rw [same] at e;cases e
  ·rw [List.getElem?_set_ne (by omega)] at e
   obtain ⟨ents,clock,kc,vc,q1,q2,q3⟩:=hw.map j K E es e
   have hne:μ j≠μ k:=fun hmu=>by rw [hmu,b3] at q2;cases q2;exact hj rfl
   exact OMapRep.mono ⟨ents,clock,kc,vc,q1,q2,q3⟩ m.dom m.keeps rfl (ho _ hne) q2 q3.1
 ·by_cases hj:j=k
  ·subst hj;rw [same] at e;cases e;trivial
  ·rw [List.getElem?_set_ne (by omega)] at e
   refine (hw.obj j x e).mono m.dom m.keeps (fun _=>rfl) (fun c oc=>⟨ho c (fun hb=>?_),oc,fun _ d=>d⟩)
   subst hb;rw [b3] at oc;cases oc;exact hj rfl
 ·have:=hw.owlt b j o
  rw [hsz];simpa using this
 ·by_cases hbk:b=μ k
  ·subst hbk
   have:=hw.owN _ _ b3 hb
   rw [hn] at this;cases this
  ·exact (ho b hbk).trans (hw.old b hb hn)
 ·by_cases hj:j=k
  ·subst hj;exact hw.lone b j _ ob hk (by simp) o d
  ·rw [List.getElem?_set_ne (by omega)] at e
   exact hw.lone b j y ob e hy o d
theorem WRel.setArr (hw:WRel Γ D ow μ st w) {k g:Nat}{E0:TypeId}{xs xs':List PV} (hk:st[k]?=some (.arr E0 g xs)) {w':World}{cur cur':Array Value} (hc0:w.heap[μ k]?=some (.cells cur E0 (0,0))) (b3:ow (μ k)=some k) (b4:∀ o,¬D (μ k) o)
 (hh:w'.heap[μ k]?=some (.cells cur' E0 (0,0))) (hcs:cur'.size=cur.size) (hl:xs'.length=xs.length) (ho:∀ b,b≠μ k->w'.heap[b]?=w.heap[b]?) (hsz:w'.heap.size=w.heap.size)
 (hos:w'.os=w.os) (htp:w'.tape=w.tape) (hou:w'.output=w.output) (hs:xs'.length*Γ.P.cellsOf E0<=cur'.size/\∀ (i:Nat) (x:PV),xs'[i]?=some x->Rep Γ.P D w E0 x ((cur'.toList.drop (i*Γ.P.cellsOf E0)).take (Γ.P.cellsOf E0))):
 WRel Γ D ow μ (st.set k (.arr E0 g xs')) w'/\Moves D w ow μ st D w' ow μ (st.set k (.arr E0 g xs')):=by
 have hlt:=(List.getElem?_eq_some_iff.1 hk).1
 have ne:∀ {j:Nat}{y:BX},st[j]?=some y->j≠k->(st.set k (.arr E0 g xs'))[j]?=some y:=fun e hj=>by rw [List.getElem?_set_ne (by omega)];exact e
 have same:(st.set k (.arr E0 g xs'))[k]?=some (.arr E0 g xs'):=by rw [List.getElem?_set_self hlt]
 have hkp:Keeps D w w':=Keeps.of_heap fun b o d=>ho b (fun e=>by subst e;exact b4 o d)
 have m:Moves D w ow μ st D w' ow μ (st.set k (.arr E0 g xs')):=by
  refine ⟨fun _ _ d=>d,hkp,fun j T x e=>⟨rfl,?_⟩,fun j K E es e=>⟨rfl,?_⟩,fun j b e hs=>⟨rfl,b,?_,rfl⟩,fun j E g xs e=>?_,fun j g e=>?_⟩
  ·by_cases hj:j=k
   ·subst hj;rw [hk] at e;cases e
   ·exact ⟨_,ne e hj⟩
  ·by_cases hj:j=k
   ·subst hj;rw [hk] at e;cases e
   ·exact ⟨_,ne e hj⟩
  ·by_cases hj:j=k
   ·subst hj;rw [hk] at e;cases e;exact absurd rfl hs
   ·exact ne e hj
  ·by_cases hj:j=k
   ·subst hj;rw [hk] at e;cases e
    refine ⟨_,_,same,Nat.le_refl _,fun _=>⟨hl,fun cur2 hc2 hoj=>⟨rfl,hoj,cur',hh,?_⟩⟩⟩
    rw [hc0] at hc2;cases hc2;exact hcs
   ·refine ⟨_,_,ne e hj,Nat.le_refl _,fun _=>⟨rfl,fun cur hc hoj=>⟨rfl,hoj,cur,(ho _ (fun hmu=>?_)).trans hc,rfl⟩⟩⟩
    rw [hmu,b3] at hoj;cases hoj;exact hj rfl
  ·by_cases hj:j=k
   ·subst hj;rw [hk] at e;cases e
   ·refine ⟨g,ne e hj,Nat.le_refl _,fun _ b ob=>⟨ho b (fun hb=>?_),ob,fun _ d=>d⟩⟩
    subst hb;rw [b3] at ob;cases ob;exact hj rfl
 have par':∀ j,j<Γ.np->∃ b,(st.set k (.arr E0 g xs'))[j]?=some b/\b.kind=Γ.K0 j:=by
  intro j hj
  obtain ⟨x,hx,p1⟩:=hw.par j hj
  by_cases hjk:j=k
  ·subst hjk;rw [hk] at hx;cases hx;exact ⟨_,same,p1⟩
  ·exact ⟨x,ne hx hjk,p1⟩
 refine ⟨⟨fun j T x e=>?_,fun j K E es e=>?_,fun j x e=>?_,fun b j o=>?_,fun b o d=>by rw [hsz];exact hw.dlt b o d,hos.trans hw.os,htp.trans hw.tape,hou.trans hw.output,by rw [hsz];exact hw.hs,fun b hb hn=>?_,hw.dom0,hw.domN,hw.owN,by simpa using hw.np,hw.mu0,par',fun b j y ob e hy o d=>?_,hw.keep0.trans m.keeps hw.dom0,hw.arr0_moves m par'⟩,m⟩
 ·by_cases hj:j=k
  ·subst hj
   rw [same] at e;cases e
  ·rw [List.getElem?_set_ne (by omega)] at e
   obtain ⟨c,T1,q1,q2,q3,q4,q5⟩:=hw.box j T x e
   have hne:μ j≠μ k:=fun hmu=>by rw [hmu,b3] at q3;cases q3;exact hj rfl
   exact BoxRep.mono ⟨c,T1,q1,q2,q3,q4,q5⟩ m rfl (ho _ hne) q3 q4
 ·by_cases hj:j=k
  ·subst hj;rw [same] at e;cases e
  ·rw [List.getElem?_set_ne (by omega)] at e
   obtain ⟨ents,clock,kc,vc,q1,q2,q3⟩:=hw.map j K E es e
   have hne:μ j≠μ k:=fun hmu=>by rw [hmu,b3] at q2;cases q2;exact hj rfl
   exact OMapRep.mono ⟨ents,clock,kc,vc,q1,q2,q3⟩ m.dom m.keeps rfl (ho _ hne) q2 q3.1
 ·by_cases hj:j=k
  ·subst hj;rw [same] at e;cases e
   exact Or.inr ⟨cur',hh,b3,b4,hs.1,fun i x hx=>(hs.2 i x hx).mono m.dom m.keeps⟩
  ·rw [List.getElem?_set_ne (by omega)] at e
   refine (hw.obj j x e).mono m.dom m.keeps (fun _=>rfl) (fun c oc=>⟨ho c (fun hb=>?_),oc,fun _ d=>d⟩)
   subst hb;rw [b3] at oc;cases oc;exact hj rfl
 ·have:=hw.owlt b j o
  rw [hsz];simpa using this
 ·by_cases hbk:b=μ k
  ·subst hbk
   have:=hw.owN _ _ b3 hb
   rw [hn] at this;cases this
  ·exact (ho b hbk).trans (hw.old b hb hn)
 ·by_cases hj:j=k
  ·subst hj;exact hw.lone b j _ ob hk (by simp) o d
  ·rw [List.getElem?_set_ne (by omega)] at e
   exact hw.lone b j y ob e hy o d
theorem ail (hw:WRel Γ D ow μ st w) (T:TypeId) (a x:SV) (ad xv:Value) (v:SV) (st':List BX) (ha:SRep Γ.P D w ow μ st a ad) (hx:SRep Γ.P D w ow μ st x xv) (h:adc Γ.P T st a x=.upd true v st'):
 ∃ w',(Instr.storeAt T ad xv).run Γ.P w=.ok () w'/\OpRes Γ D ow μ st w (.ok .skip w') v st':=by
 unfold adc at h
 split at h
 ·rename_i k path T'
  cases hb:(Nat.beq T T'&&af9 Γ.P T x&&!(Nat.beq (Γ.P.cellsOf T) 0)) with
  | false=>rw [hb] at h;simp at h
  | true=>
   rw [hb] at h
   simp only [Bool.and_eq_true,Bool.not_eq_true'] at hb
   have:=Nat.eq_of_beq_eq_true hb.1.1;subst this
   have hne:Γ.P.cellsOf T≠0:=fun e=>by rw [e] at hb;cases hb.2
   simp only [cond_true] at h
   cases ha with
   | @ref _ _ _ TB s off hk hp=>
    rw [hk] at h
    simp only at h
    cases hg:agy Γ.P TB s path x with
    | none=>rw [hg] at h;simp at h
    | some s'=>
     rw [hg] at h
     simp only [Ac.upd.injEq,true_and] at h
     obtain ⟨rfl,rfl⟩:=h
     obtain ⟨f1,f2,f3⟩:=ae6 hx hb.1.2
     obtain ⟨cells,T',b1,b2,b3,b4,b5⟩:=hw.box k TB s hk
     obtain ⟨r1,r2⟩:=ajn path TB s cells off T x xv.cells.toList s' b5 b2 hp (by rw [f3];exact hx) f1 f2 hg
     obtain ⟨inf,hi,his⟩:=aa5 hne
     have hst:=run_storeCells_at Γ.P (μ k) off T' xv.cells.toList 0 cells.toArray w b1 (by simpa using r2) f2
     simp only [Nat.add_zero,List.toList_toArray] at hst
     have hrow:(w.setRow (μ k) (abf cells off xv.cells.toList).toArray).heap[μ k]?=some (.cells (abf cells off xv.cells.toList).toArray T' (0,0)):=setRow_heap w (μ k) cells.toArray _ T' _ b1
     obtain ⟨q1,q2⟩:=hw.setBox hk hrow (by rw [abx r2];exact b2) (fun b hb=>setRow_other w (μ k) b _ hb) (by simp) rfl rfl rfl r1
     refine ⟨w.setRow (μ k) (abf cells off xv.cells.toList).toArray,?_,Go.undef,_,D,ow,μ,Or.inr ⟨rfl,rfl⟩,q1,q2,.undef⟩
     have hsz:xv.cells.size=Γ.P.cellsOf T:=by simpa using f1
     simp only [Instr.storeAt,Instr.sureAddr,Sem.run_bind,Sem.run_pure,Result.andThen_ok,storeVar,aa3 hi his,hsz,ne_eq,not_true_eq_false,if_false]
     exact hst
 ·rename_i k i E
  cases hb:(Nat.beq T E&&isOf Γ.P E x&&aa1 Γ.P E) with
  | false=>rw [hb] at h;cases h
  | true=>
   rw [hb] at h
   simp only [cond_true] at h
   simp only [Bool.and_eq_true,aa1,Bool.not_eq_true',Bool.or_eq_true] at hb
   obtain ⟨⟨e1,e2⟩,⟨e3,e4⟩,e5⟩:=hb
   have:=Nat.eq_of_beq_eq_true e1;subst this
   have hne:Γ.P.cellsOf T≠0:=fun e=>by rw [e] at e3;cases e3
   cases ha with
   | @eref _ _ n _ TB s hk hT hi=>
    rw [hk] at h
    split at h
    case h_2=>cases h
    rename_i TB0 TB' pv he
    cases he
    cases hc:(Nat.beq TB TB'&&aqo Γ.P TB T) with
    | false=>rw [hc] at h;cases h
    | true=>
     rw [hc] at h
     simp only [cond_true,Ac.upd.injEq,true_and] at h
     obtain ⟨rfl,rfl⟩:=h
     simp only [Bool.and_eq_true] at hc
     have:=Nat.eq_of_beq_eq_true hc.1;subst this
     have hcell:Γ.P.cellsOf TB=n*Γ.P.cellsOf T:=by
      have:=hc.2
      unfold aqo at this
      rw [hT] at this
      simp only [Bool.and_eq_true] at this
      exact Nat.eq_of_beq_eq_true this.2
     obtain ⟨cells,T',b1,b2,b3,b4,b5⟩:=hw.box k TB _ hk
     obtain ⟨a1,a2,a3,a4,a5⟩:=ali hT b5 b2
     have hrep:=aba hx T e2
     have hlen:xv.cells.toList.length=Γ.P.cellsOf T:=by
      cases haT:aaj Γ.P T with
      | true=>exact hrep.aggLen haT
      | false=>
       rcases e5 with h' | h'
       ·rw [haT] at h';cases h'
       ·obtain ⟨u,hu⟩:=hrep.single haT;rw [hu,Nat.eq_of_beq_eq_true h'];rfl
     have hmul:(i+1)*Γ.P.cellsOf T<=n*Γ.P.cellsOf T:=Nat.mul_le_mul_right _ (by omega)
     rw [Nat.add_mul] at hmul
     have hfit:i*Γ.P.cellsOf T+xv.cells.toList.length<=cells.length:=by omega
     obtain ⟨inf,hinf,his⟩:=aa5 hne
     have hst:=run_storeCells_at Γ.P (μ k) (i*Γ.P.cellsOf T) T' xv.cells.toList 0 cells.toArray w b1 (by simpa using hfit) hrep.oneCell
     simp only [Nat.add_zero,List.toList_toArray] at hst
     have hrow:(w.setRow (μ k) (abf cells (i*Γ.P.cellsOf T) xv.cells.toList).toArray).heap[μ k]?=some (.cells (abf cells (i*Γ.P.cellsOf T) xv.cells.toList).toArray T' (0,0)):=setRow_heap w (μ k) cells.toArray _ T' _ b1
     have hag:aaj Γ.P TB=true:=by simp [aaj,hT]
     have r1:SRep Γ.P D w ow μ st (.data TB (.agg (pv.parts.set i (toPV x)))) (pack Γ.P TB (abf cells (i*Γ.P.cellsOf T) xv.cells.toList)):=by
      simp only [pack,hag,if_true]
      refine .data hag (.arr hT (by rw [abx hfit];exact b2) (fun c hcm=>?_) (by simpa using a2) (fun m y hm=>?_))
      ·unfold abf at hcm
       simp only [List.mem_append] at hcm
       rcases hcm with (hcm | hcm) | hcm
       ·exact a4 c (List.mem_of_mem_take hcm)
       ·exact hrep.oneCell c hcm
       ·exact a4 c (List.mem_of_mem_drop hcm)
      ·by_cases hmi:m=i
       ·subst hmi
        rw [List.getElem?_set_self (by omega)] at hm
        cases hm
        have:=am2 hfit
        rw [hlen] at this
        rw [this];exact hrep
       ·rw [List.getElem?_set_ne (by omega)] at hm
        rw [adn hfit]
        ·exact a5 m y hm
        ·rw [hlen]
         rcases Nat.lt_or_gt_of_ne hmi with h' | h'
         ·have:(m+1)*Γ.P.cellsOf T<=i*Γ.P.cellsOf T:=Nat.mul_le_mul_right _ (by omega)
          rw [Nat.add_mul] at this;omega
         ·have:(i+1)*Γ.P.cellsOf T<=m*Γ.P.cellsOf T:=Nat.mul_le_mul_right _ (by omega)
          rw [Nat.add_mul] at this;omega
     obtain ⟨q1,q2⟩:=hw.setBox hk hrow (by rw [abx hfit];exact b2) (fun b hb=>setRow_other w (μ k) b _ hb) (by simp) rfl rfl rfl r1
     refine ⟨w.setRow (μ k) (abf cells (i*Γ.P.cellsOf T) xv.cells.toList).toArray,?_,Go.undef,_,D,ow,μ,Or.inr ⟨rfl,rfl⟩,q1,q2,.undef⟩
     have hsz:xv.cells.size=Γ.P.cellsOf T:=by simpa using hlen
     simp only [Instr.storeAt,Instr.sureAddr,Sem.run_bind,Sem.run_pure,Result.andThen_ok,storeVar,aa3 hinf his,hsz,ne_eq,not_true_eq_false,if_false]
     exact hst
 ·rename_i k g i E path T'
  cases hb:(Nat.beq T T'&&aa1 Γ.P E&&af9 Γ.P T x&&!(Nat.beq (Γ.P.cellsOf T) 0)) with
  | false=>rw [hb] at h;cases h
  | true=>
   rw [hb] at h
   simp only [cond_true] at h
   simp only [Bool.and_eq_true,aa1,Bool.not_eq_true',Bool.or_eq_true] at hb
   obtain ⟨⟨⟨hb1,⟨hb2,hb3⟩,hb4⟩,hb5⟩,hb6⟩:=hb
   have:=Nat.eq_of_beq_eq_true hb1;subst this
   have hne:Γ.P.cellsOf T≠0:=fun e=>by rw [e] at hb6;cases hb6
   split at h
   case h_2=>cases h
   rename_i xs hat
   have hk0:=adg hat
   split at h
   case h_2=>cases h
   rename_i y hg
   cases hy:isOf Γ.P E y with
   | false=>rw [hy] at h;cases h
   | true=>
   rw [hy] at h
   simp only [cond_true,Ac.upd.injEq,true_and] at h
   obtain ⟨rfl,rfl⟩:=h
   cases ha with
   | arefOld hk hg=>rw [hk0] at hk;cases hk;omega
   | @aref _ _ _ off _ _ _ xs2 cur hk hi hp hc ho=>
    rw [hk0] at hk;cases hk
    obtain ⟨a1,a2,a3⟩:=au4 hw hk0 hi hc
    obtain ⟨f1,f2,f3⟩:=ae6 hx hb5
    have hmul:=a1
    rw [Nat.add_mul] at hmul
    have hlen:((cur.toList.drop (i*Γ.P.cellsOf E)).take (Γ.P.cellsOf E)).length=Γ.P.cellsOf E:=by simp;omega
    obtain ⟨r1,r2⟩:=ajn path E _ _ off T x xv.cells.toList y (a3.ofPV (ow:=ow) (μ:=μ) (st:=st)) hlen hp (by rw [f3];exact hx) f1 f2 hg
    rw [hlen] at r2
    obtain ⟨inf,hinf,his⟩:=aa5 hne
    have hfit:i*Γ.P.cellsOf E+off+xv.cells.toList.length<=cur.toList.length:=by simp at r2 ⊢;omega
    have hst:=run_storeCells_at Γ.P (μ k) (i*Γ.P.cellsOf E+off) E xv.cells.toList 0 cur w hc (by simpa using hfit) f2
    simp only [Nat.add_zero,List.toList_toArray] at hst
    have hrow:(w.setRow (μ k) (abf cur.toList (i*Γ.P.cellsOf E+off) xv.cells.toList).toArray).heap[μ k]?=some (.cells (abf cur.toList (i*Γ.P.cellsOf E+off) xv.cells.toList).toArray E (0,0)):=setRow_heap w (μ k) cur _ E _ hc
    have hyr:=aba r1 E hy
    have hrow0:xs.length*Γ.P.cellsOf E<=cur.size/\∀ (j:Nat) (z:PV),xs[j]?=some z->Rep Γ.P D w E z ((cur.toList.drop (j*Γ.P.cellsOf E)).take (Γ.P.cellsOf E)):=by
     rcases hw.obj k _ hk0 with h0 | ⟨cur2,q1,q2,q3,q4,q5⟩
     ·subst h0;simp at hi
     ·rw [hc] at q1;cases q1;exact ⟨q4,q5⟩
    have hsp:(abf cur.toList (i*Γ.P.cellsOf E+off) xv.cells.toList).toArray.size=cur.size:=by simpa using abx hfit
    have hel:∀ (m:Nat) (z:PV),(xs.set i (toPV y))[m]?=some z->Rep Γ.P D w E z ((((abf cur.toList (i*Γ.P.cellsOf E+off) xv.cells.toList).toArray).toList.drop (m*Γ.P.cellsOf E)).take (Γ.P.cellsOf E)):=by
     intro m z hm
     have hr2':off+xv.cells.toList.length<=Γ.P.cellsOf E:=by simpa using r2
     by_cases hmi:m=i
     ·subst hmi
      rw [List.getElem?_set_self hi] at hm
      cases hm
      simp only
      rw [ajp (by simp;omega) hr2']
      have hpk:(pack Γ.P E (abf ((cur.toList.drop (m*Γ.P.cellsOf E)).take (Γ.P.cellsOf E)) off xv.cells.toList)).cells.toList=abf ((cur.toList.drop (m*Γ.P.cellsOf E)).take (Γ.P.cellsOf E)) off xv.cells.toList:=by
       have hl2:(abf ((cur.toList.drop (m*Γ.P.cellsOf E)).take (Γ.P.cellsOf E)) off xv.cells.toList).length=Γ.P.cellsOf E:=by rw [abx (by rw [hlen];exact hr2')];exact hlen
       refine aoi (hb4.imp id (fun h=>hl2.trans (Nat.eq_of_beq_eq_true h))) (fun c hcm=>?_)
       unfold abf at hcm
       simp only [List.mem_append] at hcm
       rcases hcm with (hcm | hcm) | hcm
       ·exact a3.oneCell c (List.mem_of_mem_take hcm)
       ·exact f2 c hcm
       ·exact a3.oneCell c (List.mem_of_mem_drop hcm)
      rw [hpk] at hyr
      exact hyr
     ·rw [List.getElem?_set_ne (by omega)] at hm
      simp only
      rw [adn hfit]
      ·exact hrow0.2 m z hm
      ·rcases Nat.lt_or_gt_of_ne hmi with h' | h'
       ·have:(m+1)*Γ.P.cellsOf E<=i*Γ.P.cellsOf E:=Nat.mul_le_mul_right _ (by omega)
        rw [Nat.add_mul] at this;omega
       ·have:(i+1)*Γ.P.cellsOf E<=m*Γ.P.cellsOf E:=Nat.mul_le_mul_right _ (by omega)
        rw [Nat.add_mul] at this;omega
    obtain ⟨q1,q2⟩:=hw.setArr (xs':=xs.set i (toPV y)) hk0 hc ho a2 hrow hsp (by simp) (fun b hb=>setRow_other w (μ k) b _ hb) (by simp) rfl rfl rfl ⟨by rw [hsp];simpa using hrow0.1,hel⟩
    refine ⟨w.setRow (μ k) (abf cur.toList (i*Γ.P.cellsOf E+off) xv.cells.toList).toArray,?_,Go.undef,_,D,ow,μ,Or.inr ⟨rfl,rfl⟩,q1,q2,.undef⟩
    have hsz:xv.cells.size=Γ.P.cellsOf T:=by simpa using f1
    simp only [Instr.storeAt,Instr.sureAddr,Sem.run_bind,Sem.run_pure,Result.andThen_ok,storeVar,aa3 hinf his,hsz,ne_eq,not_true_eq_false,if_false]
    exact hst
 ·simp at h
theorem aqc (hw:WRel Γ D ow μ st w) (T:TypeId) (a x:SV) (ad xv:Value) (v:SV) (st':List BX) (ha:SRep Γ.P D w ow μ st a ad) (hx:SRep Γ.P D w ow μ st x xv) (h:ads Γ.P T st a x=.upd true v st'):∃ w',(Instr.storeAt T ad xv).run Γ.P w=.ok () w'/\OpRes Γ D ow μ st w (.ok .skip w') v st':=by
 unfold ads at h
 split at h
 ·split at h
  ·rename_i k g i E p T0 T1 j hj
   split at h
   ·rename_i E1 g1 xs1 hk
    cases hb:Nat.beq j k with
    | true=>rw [hb] at h;cases h
    | false=>
     rw [hb] at h
     simp only [cond_false] at h
     obtain ⟨h1,m1⟩:=hw.freezeRow hk
     have hx1:=aka (fz:=[j]) hw hx (fun k' hk'=>by rw [hj] at hk';exact hk')
     have m2:Moves (ade D ow μ st [j]) w ow μ st (ade D ow μ st [j]) w (aoh ow j) μ (st.set j (.arr E1 (g1+1) [])):=⟨fun _ _ d=>d,Keeps.refl _ _,m1.box,m1.map,m1.obj,m1.arr,fun k' g' e=>by
      obtain ⟨g2,e2,hle,hs⟩:=m1.acc k' g' e
      refine ⟨g2,e2,hle,fun eq b ob=>?_⟩
      obtain ⟨r1,r2,r3⟩:=hs eq b ob
      exact ⟨r1,r2,fun o d=>d⟩⟩
     obtain ⟨w',hrun,u,w2,D2,ow2,μ2,hr,hw2,hm2,hv2⟩:=ail h1 T _ _ ad xv v st' (ha.mono m1) (hx1.mono m2) h
     exact ⟨w',hrun,u,w2,D2,ow2,μ2,hr,hw2,m1.trans hm2,hv2⟩
   ·cases h
  ·exact ail hw T _ _ ad xv v st' ha hx h
 ·exact ail hw T _ _ ad xv v st' ha hx h
theorem apo (hw:WRel Γ D ow μ st w) (T K E:TypeId):∃ u w',(Instr.makeMap T none).run Γ.P w=.ok u w'/\OpRes Γ D ow μ st w (.ok (.value u) w') (.mref st.length) (st++[.map K E []]):=by
 have hD:∀ o,¬D w.heap.size o:=fun o d=>by have:=hw.dlt _ _ d;omega
 obtain ⟨h1,h2⟩:=hw.newOwn (.map #[] 0) (.map K E []) (fun m=>
  ⟨#[],0,fun _=>[],fun _=>[],by rw [aae];exact aar _ _,by rw [aae,aae],by rw [aae];exact hD,rfl,fun i x hx=>by simp at hx,fun i x hx=>by simp at hx,⟨fun i e he=>by simp at he,BornOk.nil⟩,AtIdx.nil⟩)
 refine ⟨.map (some w.heap.size),w.alloc (.map #[] 0),by simp [Instr.makeMap],_,_,_,_,_,Or.inl rfl,h1,h2,?_⟩
 have:=SRep.mref (P:=Γ.P) (D:=D) (w:=w.alloc (.map #[] 0)) (ow:=upd ow w.heap.size (some st.length)) (μ:=upd μ st.length w.heap.size) (st:=st++[.map K E []]) (k:=st.length) (K:=K) (E:=E) (es:=[])
  (by rw [List.getElem?_append_right (Nat.le_refl _)];simp)
 rwa [aae] at this
theorem ay6 (hw:WRel Γ D ow μ st w) {η:Operand->Value}{ρ:Operand->SV} (hρ:∀ x,SRep Γ.P D w ow μ st (ρ x) (η x)) (o:Oper) {k:Nat}{v:SV}{b:BX}{st':List BX} (h:extV Γ.P o.op ρ k=some (v,b)) (hst:aov Γ.np st k b st'):
 OpRes Γ D ow μ st w ((execOp η o).run Γ.P w) v st':=by
 have hD:∀ o,¬D w.heap.size o:=fun o d=>by have:=hw.dlt _ _ d;omega
 have bld:∀ T,b=.bld T []->v=.bref k T->∀ r:Result Next,r=.ok (.value (.pointer (some ⟨w.heap.size,0,none⟩))) (w.alloc (.cells #[.pointer none,.slice none 0 0] T))->OpRes Γ D ow μ st w r v st':=by
  intro T hb hv r hr
  subst hb;subst hv
  obtain ⟨h0,h1,h2⟩:=hw.newOwnAt (.cells #[.pointer none,.slice none 0 0] T) (.bld T []) (fun m=>show auy _ _ _ _ _ _ _ _ from
   ⟨.pointer none,.slice none 0 0,by rw [aae];exact aar _ _,Or.inl rfl,by rw [aae,aae],by rw [aae];exact hD,Or.inl ⟨rfl,rfl⟩⟩) hst
  refine ⟨_,_,_,_,_,Or.inl hr,h1,h2,?_⟩
  have:=SRep.bref (P:=Γ.P) (D:=D) (w:=w.alloc (.cells #[.pointer none,.slice none 0 0] T)) (ow:=upd ow w.heap.size (some k)) (μ:=upd μ k w.heap.size) (k:=k) (T:=T) (TB:=T) (bs:=[]) h0
  rwa [aae] at this
 have box:∀ T s,b=.box T s->v=.ref k [] T->∀ (cells:List Value),cells.length=Γ.P.cellsOf T->SRep Γ.P D w ow μ st s (pack Γ.P T cells)->∀ r:Result Next,r=.ok (.value (.pointer (some ⟨w.heap.size,0,none⟩))) (w.alloc (.cells cells.toArray T))->OpRes Γ D ow μ st w r v st':=by
  intro T s hb hv cells hl hs r hr
  subst hb;subst hv
  obtain ⟨h0,h1,h2⟩:=hw.newOwnAt (.cells cells.toArray T) (.box T s) (fun m=>
   ⟨cells,T,by rw [aae];exact aar _ _,hl,by rw [aae,aae],by rw [aae];exact hD,hs.mono m⟩) hst
  refine ⟨_,_,_,_,_,Or.inl hr,h1,h2,?_⟩
  have:=SRep.ref (P:=Γ.P) (D:=D) (w:=w.alloc (.cells cells.toArray T)) (ow:=upd ow w.heap.size (some k)) (μ:=upd μ k w.heap.size) (k:=k) (path:=[]) (T:=T) (TB:=T) (v:=s) (off:=0) h0 rfl
  rwa [aae] at this
 unfold extV at h
 split at h
 ·rename_i T hop
  cases hb:ae9 Γ.P T with
  | true=>
   rw [hb] at h
   simp only [cond_true,Option.some.injEq,Prod.mk.injEq] at h
   simp only [ae9,Bool.and_eq_true] at hb
   obtain ⟨i,hi,hz⟩:=akl hb.2
   exact bld T h.2.symm h.1.symm _ (by simp [execOp,hop,Instr.alloc,zeroValue,typeInfo,hi,hz,newVar,newRow,Value.cells])
  | false=>
   rw [hb] at h
   simp only [cond_false] at h
   cases hz:ab5 Γ.P T with
   | false=>rw [hz] at h;cases h
   | true=>
    rw [hz] at h
    simp only [cond_true,Option.some.injEq,Prod.mk.injEq] at h
    obtain ⟨i,z,hi,hiz,his,hzs,hze,hzr,hzo2⟩:=abq (Γ:=Γ) (D:=D) (ow:=ow) (μ:=μ) (st:=st) (w:=w) hz
    exact box T _ h.2.symm h.1.symm z.cells.toList (by simpa using hzs) (by rw [<-hze];exact hzr) _ (by simp [execOp,hop,Instr.alloc,zeroValue,typeInfo,hi,hiz,newVar,newRow])
 ·rename_i T x hop
  cases hb:(ae9 Γ.P T&&aiy Γ.P 3 T (ρ x)) with
  | true=>
   rw [hb] at h
   simp only [cond_true,Option.some.injEq,Prod.mk.injEq] at h
   simp only [Bool.and_eq_true] at hb
   have hv:=an6 3 T _ _ (hρ x) hb.2
   exact bld T h.2.symm h.1.symm _ (by simp [execOp,hop,hv,Instr.box,newVar,newRow,Value.cells])
  | false=>
   rw [hb] at h
   simp only [cond_false] at h
   cases hf:af9 Γ.P T (ρ x) with
   | false=>rw [hf] at h;cases h
   | true=>
    rw [hf] at h
    simp only [cond_true,Option.some.injEq,Prod.mk.injEq] at h
    obtain ⟨h1,h2,h3⟩:=ae6 (hρ x) hf
    exact box T _ h.2.symm h.1.symm (η x).cells.toList h1 (by rw [h3];exact hρ x) _ (by simp [execOp,hop,Instr.box,newVar,newRow])
 ·rename_i T r hop
  split at h
  ·rename_i K E hT
   simp only [Option.some.injEq,Prod.mk.injEq] at h
   obtain ⟨rfl,rfl⟩:=h
   obtain ⟨h0,h1,h2⟩:=hw.newOwnAt (.map #[] 0) (.map K E []) (fun m=>
    ⟨#[],0,fun _=>[],fun _=>[],by rw [aae];exact aar _ _,by rw [aae,aae],by rw [aae];exact hD,rfl,fun i x hx=>by simp at hx,fun i x hx=>by simp at hx,⟨fun i e he=>by simp at he,BornOk.nil⟩,AtIdx.nil⟩) hst
   refine ⟨.map (some w.heap.size),w.alloc (.map #[] 0),_,_,_,Or.inl (by simp [execOp,hop,Instr.makeMap]),h1,h2,?_⟩
   have:=SRep.mref (P:=Γ.P) (D:=D) (w:=w.alloc (.map #[] 0)) (ow:=upd ow w.heap.size (some k)) (μ:=upd μ k w.heap.size) (k:=k) (K:=K) (E:=E) (es:=[]) h0
   rwa [aae] at this
  ·cases h
 ·cases h
theorem WRel.setMap (hw:WRel Γ D ow μ st w) {k:Nat}{K E:TypeId}{es es':List (PV×PV)} (hk:st[k]?=some (.map K E es)) {w':World}{ents:Array MapEntry}{clock:Nat}{kc vc:Nat->List Value}
 (hh:w'.heap[μ k]?=some (.map ents clock)) (hl:ents.size=es'.length) (ho:∀ b,b≠μ k->w'.heap[b]?=w.heap[b]?) (hsz:w'.heap.size=w.heap.size)
 (hos:w'.os=w.os) (htp:w'.tape=w.tape) (hou:w'.output=w.output)
 (h1:∀ (i:Nat) (x:PV×PV),es'[i]?=some x->Rep Γ.P D w K x.1 (kc i)) (h2:∀ (i:Nat) (x:PV×PV),es'[i]?=some x->Rep Γ.P D w E x.2 (vc i))
 (h3:au0 Γ.P K E kc vc ents clock) (h4:AtIdx ents clock):
 WRel Γ D ow μ (st.set k (.map K E es')) w'/\Moves D w ow μ st D w' ow μ (st.set k (.map K E es')):=by
 have hlt:=(List.getElem?_eq_some_iff.1 hk).1
 obtain ⟨ents0,clock0,kc0,vc0,b1,b3,b4,_⟩:=hw.map k K E es hk
 have ne:∀ {j:Nat}{y:BX},st[j]?=some y->j≠k->(st.set k (.map K E es'))[j]?=some y:=fun e hj=>by rw [List.getElem?_set_ne (by omega)];exact e
 have same:(st.set k (.map K E es'))[k]?=some (.map K E es'):=by rw [List.getElem?_set_self hlt]
 have hkp:Keeps D w w':=Keeps.of_heap fun b o d=>ho b (fun e=>by subst e;exact b4 o d)
 have m:Moves D w ow μ st D w' ow μ (st.set k (.map K E es')):=by
  refine ⟨fun _ _ d=>d,hkp,fun j T x e=>⟨rfl,?_⟩,fun j K E es e=>⟨rfl,?_⟩,fun j b e hs=>⟨rfl,b,?_,rfl⟩,fun j E g xs e=>?_,fun j g e=>?_⟩
  ·by_cases hj:j=k
   ·subst hj;rw [hk] at e;cases e
   ·exact ⟨_,ne e hj⟩
  ·by_cases hj:j=k
   ·subst hj;rw [hk] at e;cases e;exact ⟨_,same⟩
   ·exact ⟨_,ne e hj⟩
  ·by_cases hj:j=k
   ·subst hj;rw [hk] at e;cases e;exact absurd rfl hs
   ·exact ne e hj
  ·by_cases hj:j=k
   ·subst hj;rw [hk] at e;cases e
   ·refine ⟨g,xs,ne e hj,Nat.le_refl _,fun _=>⟨rfl,fun cur hc hoj=>⟨rfl,hoj,cur,(ho _ (fun hmu=>?_)).trans hc,rfl⟩⟩⟩
    rw [hmu,b3] at hoj;cases hoj;exact hj rfl
  ·by_cases hj:j=k
   ·subst hj;rw [hk] at e;cases e
   ·refine ⟨g,ne e hj,Nat.le_refl _,fun _ b ob=>⟨ho b (fun hb=>?_),ob,fun _ d=>d⟩⟩
    subst hb;rw [b3] at ob;cases ob;exact hj rfl
 have par':∀ j,j<Γ.np->∃ b,(st.set k (.map K E es'))[j]?=some b/\b.kind=Γ.K0 j:=by
  intro j hj
  obtain ⟨x,hx,p1⟩:=hw.par j hj
  by_cases hjk:j=k
  ·subst hjk;rw [hk] at hx;cases hx;exact ⟨_,same,p1⟩
  ·exact ⟨x,ne hx hjk,p1⟩
 refine ⟨⟨fun j T x e=>?_,fun j K E es e=>?_,fun j x e=>?_,fun b j o=>?_,fun b o d=>by rw [hsz];exact hw.dlt b o d,hos.trans hw.os,htp.trans hw.tape,hou.trans hw.output,by rw [hsz];exact hw.hs,fun b hb hn=>?_,hw.dom0,hw.domN,hw.owN,by simpa using hw.np,hw.mu0,par',fun b j y ob e hy o d=>?_,hw.keep0.trans m.keeps hw.dom0,hw.arr0_moves m par'⟩,m⟩
 ·by_cases hj:j=k
  ·subst hj
   rw [same] at e;cases e
  ·rw [List.getElem?_set_ne (by omega)] at e
   obtain ⟨c,T1,q1,q2,q3,q4,q5⟩:=hw.box j T x e
   have hne:μ j≠μ k:=fun hmu=>by rw [hmu,b3] at q3;cases q3;exact hj rfl
   exact BoxRep.mono ⟨c,T1,q1,q2,q3,q4,q5⟩ m rfl (ho _ hne) q3 q4
 ·by_cases hj:j=k
  ·subst hj;rw [same] at e;cases e
   exact ⟨ents,clock,kc,vc,hh,b3,b4,hl,fun i x a=>(h1 i x a).mono m.dom m.keeps,fun i x a=>(h2 i x a).mono m.dom m.keeps,h3,h4⟩
  ·rw [List.getElem?_set_ne (by omega)] at e
   obtain ⟨ents',clock',kc',vc',q1,q2,q3⟩:=hw.map j _ _ _ e
   have hne:μ j≠μ k:=fun hmu=>by rw [hmu,b3] at q2;cases q2;exact hj rfl
   exact OMapRep.mono ⟨ents',clock',kc',vc',q1,q2,q3⟩ m.dom m.keeps rfl (ho _ hne) q2 q3.1
 ·by_cases hj:j=k
  ·subst hj;rw [same] at e;cases e;trivial
  ·rw [List.getElem?_set_ne (by omega)] at e
   refine (hw.obj j x e).mono m.dom m.keeps (fun _=>rfl) (fun c oc=>⟨ho c (fun hb=>?_),oc,fun _ d=>d⟩)
   subst hb;rw [b3] at oc;cases oc;exact hj rfl
 ·have:=hw.owlt b j o
  rw [hsz];simpa using this
 ·by_cases hbk:b=μ k
  ·subst hbk
   have:=hw.owN _ _ b3 hb
   rw [hn] at this;cases this
  ·exact (ho b hbk).trans (hw.old b hb hn)
 ·by_cases hj:j=k
  ·subst hj;exact hw.lone b j _ ob hk (by simp) o d
  ·rw [List.getElem?_set_ne (by omega)] at e
   exact hw.lone b j y ob e hy o d
theorem avp {d:TypeDesc}{x y:PV}{a b:Value} (hx:Key1 d x a) (hy:Key1 d y b) (h:adt y x=true):a=b:=by
 cases hx with
 | str s hd=>subst hd;cases hy with
  | str t _=>simp [adt] at h;subst h;rfl
  | int _ _ h=>cases h
  | bool _ h=>cases h
 | int k n hd=>subst hd;cases hy with
  | int k' m h'=>cases h';simp [adt] at h;subst h;rfl
  | str _ h=>cases h
  | bool _ h=>cases h
 | bool p hd=>subst hd;cases hy with
  | bool q _=>simp [adt] at h;subst h;rfl
  | int _ _ h=>cases h
  | str _ h=>cases h
theorem ard {d:TypeDesc}{x:PV}{a:Value} (hx:Key1 d x a) (n:Nat):Instr.sameBits n a a=true:=by
 cases hx<;>simp [Instr.sameBits,au7]
theorem azv {P:Program}:∀ {n:Nat}{ds:List Field}{xs:List PV}{cs:List Value},KeysL P n ds xs cs->∀ {ys:List PV}{es:List Value},KeysL P n ds ys es->al4 ys xs=true->cs=es:=by
 intro n ds xs cs h
 induction h with
 | nil n=>intro ys es h2 _;cases h2;rfl
 | @cons n f d fs x xs a cs ho hn hT hk _ ih=>
  intro ys es h2 he
  cases h2 with
  | @cons _ _ d' _ y ys b es ho' hn' hT' hk' h2=>
   rw [hT] at hT';cases hT'
   simp only [al4] at he
   cases hb:adt y x with
   | false=>rw [hb] at he;cases he
   | true=>
    rw [hb] at he
    rw [avp hk hk' hb,ih h2 he]
theorem aw7 {P:Program} (m:Nat):∀ {n:Nat}{ds:List Field}{xs:List PV}{cs:List Value},KeysL P n ds xs cs->(cs.zip cs).all (fun (x,y)=>Instr.sameBits m x y)=true:=by
 intro n ds xs cs h
 induction h with
 | nil n=>rfl
 | cons ho hn hT hk _ ih=>simp only [List.zip_cons_cons,List.all_cons,ard hk,Bool.true_and];exact ih
theorem asd {P:Program}{K:TypeId}{d:TypeDesc}{x y:PV}{a b:Value} (hx:KeyIs P K d x a) (hy:KeyIs P K d y b) (h:ai0 y x=true) (w:World):(Instr.keyThatStays a b).run P w=.ok b w/\a=b:=by
 have no:∀ {ds:Array Field}{x:PV}{a:Value},Key1 (.struct ds) x a->False:=fun h=>by cases h<;>rename_i h<;>cases h
 have e:a=b:=by
  cases hx with
  | one h1=>
   cases hy with
   | one h2=>
    have e1:ai0 y x=adt y x:=by cases h2<;>rfl
    rw [e1] at h
    exact avp h1 h2 h
   | agg ds _ _ h2=>subst h2;exact absurd h1 (fun h=>no h)
  | agg ds xs cs h1 h2 h3=>
   subst h1
   cases hy with
   | one h4=>exact absurd h4 (fun h=>no h)
   | agg ds2 ys es h4 h5 h6=>cases h4;rw [azv h3 h6 h]
 subst e
 refine ⟨?_,rfl⟩
 have hb:Instr.sameBits 10000 a a=true:=by
  cases hx with
  | one h1=>exact ard h1 _
  | agg ds xs cs h1 h2 h3=>
   have:=aw7 9999 h3
   simp only [Instr.sameBits,List.toList_toArray,beq_self_eq_true,Bool.true_and]
   exact this
 simp [Instr.keyThatStays,hb]
theorem agq (hw:WRel Γ D ow μ st w) (T:TypeId) (m k x:SV) (mv kv xv:Value) (v:SV) (st':List BX) (hm:SRep Γ.P D w ow μ st m mv) (hk:SRep Γ.P D w ow μ st k kv) (hx:SRep Γ.P D w ow μ st x xv)
 (h:abp Γ.P T st m k x=.upd true v st'):∃ w',(Instr.mapUpdate T mv kv xv).run Γ.P w=.ok () w'/\OpRes Γ D ow μ st w (.ok .skip w') v st':=by
 unfold abp at h
 split at h
 ·rename_i K E hT
  cases hc:(keyT Γ.P K&&isOf Γ.P K k&&isOf Γ.P E x) with
  | false=>rw [hc] at h;simp at h
  | true=>
   rw [hc] at h
   simp only [cond_true] at h
   simp only [Bool.and_eq_true] at hc
   obtain ⟨⟨c1,c2⟩,c3⟩:=hc
   split at h
   ·rename_i j
    split at h
    ·rename_i K' E' es hj
     cases hb:(Nat.beq K K'&&Nat.beq E E') with
     | false=>rw [hb] at h;simp at h
     | true=>
      rw [hb] at h
      simp only [Bool.and_eq_true] at hb
      have:=Nat.eq_of_beq_eq_true hb.1;subst this
      have:=Nat.eq_of_beq_eq_true hb.2;subst this
      simp only [cond_true,Ac.upd.injEq,true_and] at h
      obtain ⟨rfl,rfl⟩:=h
      cases hm
      obtain ⟨ents,clock,kc,vc,r1,r2,r3,r4,r5,r6,r7,r8⟩:=hw.map j K E es hj
      have hrk:=aba hk K c2
      have hpk:=afa hk c2
      have hrx:=aba hx E c3
      have hpx:=afa hx c3
      obtain ⟨d,hd,hkey⟩:=afu c1 hrk
      rw [hpk] at hkey
      have hall:∀ (i:Nat) (e:MapEntry) (y:PV×PV),ents.toList[i]?=some e->es[i]?=some y->KeyIs Γ.P K d y.1 e.key:=by
       intro i e y he hy
       obtain ⟨d',hd',hyk⟩:=afu c1 (r5 i y hy)
       rw [hd] at hd';cases hd'
       rw [(r7.1 i e (by simpa using he)).1];exact hyk
      have hlt:μ j<w.heap.size:=(hw.owlt _ _ r2).1
      rcases aj7 hd hkey ents.toList es 0 (by simpa using r4) hall with ⟨i,y,e,q1,q2,q3,q4,q5,q6,_⟩ | ⟨q1,q2,q6,_⟩
      ·have q2':ents[i]?=some e:=by simpa using q2
       have hey:=hall i e y q2 q1
       obtain ⟨s1,s2⟩:=asd hey hkey q3 w
       have hmod:∀ (n:Nat),(ents.modify i fun e=>{ e with key:=kv,val:=xv })[n]?=if n=i then some { e with key:=kv,val:=xv } else ents[n]?:=by
        intro n
        rw [Array.getElem?_modify]
        by_cases hn:i=n
        ·subst hn;simp [q2']
        ·rw [if_neg hn,if_neg (fun h=>hn h.symm)]
       refine ⟨{ w with heap:=w.heap.setIfInBounds (μ j) (.map (ents.modify i fun e=>{ e with key:=kv,val:=xv }) clock) },?_,?_⟩
       ·simp only [Nat.zero_add] at q5
        have hge:((ents[i]?).map (·.key)).getD kv=e.key:=by rw [q2'];rfl
        simp only [Instr.mapUpdate,Sem.run_bind,run_underlying hT,Result.andThen_ok,getObj,Sem.run,r1,ack hd hkey,ac3 hd q5,hge,s1,setObj]
       ·rw [q6]
        have hset:=hw.setMap hj (w':={ w with heap:=w.heap.setIfInBounds (μ j) (.map (ents.modify i fun e=>{ e with key:=kv,val:=xv }) clock) }) (ents:=ents.modify i fun e=>{ e with key:=kv,val:=xv }) (clock:=clock)
         (es':=es.set i (y.1,toPV x)) (kc:=kc) (vc:=upd vc i xv.cells.toList) (by simp [hlt]) (by simpa using r4) (fun b hb=>by simp [Array.getElem?_setIfInBounds_ne (fun e=>hb e.symm)]) (by simp) rfl rfl rfl
        refine (fun h1 h2 h3 h4=>by obtain ⟨u1,u2⟩:=hset h1 h2 h3 h4;exact ⟨_,_,_,_,_,Or.inr ⟨rfl,rfl⟩,u1,u2,.undef⟩) (fun n z hz=>?_) (fun n z hz=>?_) (And.intro (fun n f hf=>?_) (r7.2.same ?hs)) (r8.same Array.size_modify ?hs)
        ·by_cases hn:n=i
         ·subst hn
          rw [List.getElem?_set_self (List.getElem?_eq_some_iff.1 q1).1] at hz
          cases hz;exact r5 n y q1
         ·rw [List.getElem?_set_ne (by omega)] at hz;exact r5 n z hz
        ·by_cases hn:n=i
         ·subst hn
          rw [List.getElem?_set_self (List.getElem?_eq_some_iff.1 q1).1] at hz
          cases hz;rw [aae];exact hrx
         ·rw [List.getElem?_set_ne (by omega)] at hz;rw [aal _ _ hn];exact r6 n z hz
        ·rw [hmod] at hf
         by_cases hn:n=i
         ·subst hn
          rw [if_pos rfl] at hf;cases hf
          refine ⟨?_,by rw [aae];exact hpx.symm⟩
          show kv=_
          rw [<-s2];exact (r7.1 n e q2').1
         ·rw [if_neg hn] at hf;rw [aal _ _ hn];exact r7.1 n f hf
        case hs=>
         intro n f hf
         rw [hmod] at hf
         by_cases hn:n=i
         ·subst hn;rw [if_pos rfl] at hf;cases hf;exact ⟨e,q2',rfl⟩
         ·rw [if_neg hn] at hf;exact ⟨f,hf,rfl⟩
      ·refine ⟨{ w with heap:=w.heap.setIfInBounds (μ j) (.map (ents.push { key:=kv,val:=xv,born:=clock }) (clock+1)) },?_,?_⟩
       ·simp only [Instr.mapUpdate,Sem.run_bind,run_underlying hT,Result.andThen_ok,getObj,Sem.run,r1,ack hd hkey,ac3 hd q2,setObj]
       ·rw [q6]
        have hpush:∀ n,(ents.push { key:=kv,val:=xv,born:=clock })[n]?=if n=ents.size then some { key:=kv,val:=xv,born:=clock } else ents[n]?:=fun n=>Array.getElem?_push
        have hset:=hw.setMap hj (w':={ w with heap:=w.heap.setIfInBounds (μ j) (.map (ents.push { key:=kv,val:=xv,born:=clock }) (clock+1)) }) (ents:=ents.push { key:=kv,val:=xv,born:=clock }) (clock:=clock+1)
         (es':=es++[(toPV k,toPV x)]) (kc:=upd kc ents.size kv.cells.toList) (vc:=upd vc ents.size xv.cells.toList) (by simp [hlt]) (by simp [r4]) (fun b hb=>by simp [Array.getElem?_setIfInBounds_ne (fun e=>hb e.symm)]) (by simp) rfl rfl rfl
        refine (fun h1 h2 h3 h4=>by obtain ⟨u1,u2⟩:=hset h1 h2 h3 h4;exact ⟨_,_,_,_,_,Or.inr ⟨rfl,rfl⟩,u1,u2,.undef⟩) (fun n z hz=>?_) (fun n z hz=>?_) (And.intro (fun n f hf=>?_) (r7.2.push _ rfl)) (r8.push _ rfl)
        ·by_cases hn:n<es.length
         ·rw [List.getElem?_append_left hn] at hz;rw [aal _ _ (by omega)];exact r5 n z hz
         ·have hn':n=ents.size:=by have:=(List.getElem?_eq_some_iff.1 hz).1;simp at this;omega
          subst hn'
          rw [r4,List.getElem?_append_right (Nat.le_refl _)] at hz
          simp at hz;subst hz
          rw [aae];exact hrk
        ·by_cases hn:n<es.length
         ·rw [List.getElem?_append_left hn] at hz;rw [aal _ _ (by omega)];exact r6 n z hz
         ·have hn':n=ents.size:=by have:=(List.getElem?_eq_some_iff.1 hz).1;simp at this;omega
          subst hn'
          rw [r4,List.getElem?_append_right (Nat.le_refl _)] at hz
          simp at hz;subst hz
          rw [aae];exact hrx
        ·rw [hpush] at hf
         by_cases hn:n=ents.size
         ·subst hn
          rw [if_pos rfl] at hf;cases hf
          rw [aae,aae]
          exact ⟨hpk.symm,hpx.symm⟩
         ·rw [if_neg hn] at hf;rw [aal _ _ hn,aal _ _ hn];exact r7.1 n f hf
    ·simp at h
   ·simp at h
 ·simp at h
theorem ann (hw:WRel Γ D ow μ st w) (T:TypeId) (m k:SV) (mv kv:Value) (v:SV) (st':List BX) (hm:SRep Γ.P D w ow μ st m mv) (hk:SRep Γ.P D w ow μ st k kv)
 (h:ab4 Γ.P T st m k=.upd true v st'):∃ u w',(Instr.mapEntry T mv kv).run Γ.P w=.ok u w'/\OpRes Γ D ow μ st w (.ok (.value u) w') v st':=by
 unfold ab4 at h
 split at h
 ·rename_i K E hT
  cases hc:(keyT Γ.P K&&isOf Γ.P K k&&ab5 Γ.P E&&isOf Γ.P E (abd Γ.P 12 E)) with
  | false=>rw [hc] at h;simp at h
  | true=>
   rw [hc] at h
   simp only [cond_true] at h
   simp only [Bool.and_eq_true] at hc
   obtain ⟨⟨⟨c1,c2⟩,c3⟩,c4⟩:=hc
   split at h
   ·rename_i j
    split at h
    ·rename_i K' E' es hj
     cases hb:(Nat.beq K K'&&Nat.beq E E') with
     | false=>rw [hb] at h;simp at h
     | true=>
      rw [hb] at h
      simp only [Bool.and_eq_true] at hb
      have:=Nat.eq_of_beq_eq_true hb.1;subst this
      have:=Nat.eq_of_beq_eq_true hb.2;subst this
      simp only [cond_true,Ac.upd.injEq,true_and] at h
      obtain ⟨rfl,rfl⟩:=h
      cases hm
      obtain ⟨ents,clock,kc,vc,r1,r2,r3,r4,r5,r6,r7,r8⟩:=hw.map j K E es hj
      have hrk:=aba hk K c2
      have hpk:=afa hk c2
      obtain ⟨iz,z,hi,hiz,his,hzs,hze,hzr,hzo2⟩:=abq (Γ:=Γ) (D:=D) (ow:=ow) (μ:=μ) (st:=st) (w:=w) c3
      have hrz:=aba hzr E c4
      obtain ⟨d,hd,hkey⟩:=afu c1 hrk
      rw [hpk] at hkey
      have hall:∀ (i:Nat) (e:MapEntry) (y:PV×PV),ents.toList[i]?=some e->es[i]?=some y->KeyIs Γ.P K d y.1 e.key:=by
       intro i e y he hy
       obtain ⟨d',hd',hyk⟩:=afu c1 (r5 i y hy)
       rw [hd] at hd';cases hd'
       rw [(r7.1 i e (by simpa using he)).1];exact hyk
      have hlt:μ j<w.heap.size:=(hw.owlt _ _ r2).1
      have tup:∀ (n:Nat) (zv:Value) (D':Dom) (w':World) (ow':Own) (μ':Nat->Nat) (st':List BX),SRep Γ.P D' w' ow' μ' st' (.tup [.undef,.int .i64 ((n:Nat):Int)]) (.tuple #[zv,.int .i64 (n:Int)]):=by
       intro n zv D' w' ow' μ' st'
       refine .tup rfl (fun i s v hs hv=>?_)
       match i,hs,hv with
       | 0,hs,hv=>cases hs;exact .undef
       | 1,hs,hv=>cases hs;cases hv;exact .int
      rcases aj7 hd hkey ents.toList es 0 (by simpa using r4) hall with ⟨i,y,e,q1,q2,q3,q4,q5,q6,q7⟩ | ⟨q1,q2,q6,q7⟩
      ·have q2':ents[i]?=some e:=by simpa using q2
       have hey:=hall i e y q2 q1
       obtain ⟨s1,s2⟩:=asd hey hkey q3 w
       have hmod:∀ (n:Nat),(ents.modify i fun e=>{ e with key:=kv })[n]?=if n=i then some { e with key:=kv } else ents[n]?:=by
        intro n
        rw [Array.getElem?_modify]
        by_cases hn:i=n
        ·subst hn;simp [q2']
        ·rw [if_neg hn,if_neg (fun h=>hn h.symm)]
       have hborn:e.born=i:=r8.2 i e q2'
       have hes:PV.mput es (toPV k) ((PV.mget es (toPV k)).getD (toPV (abd Γ.P 12 E)))=es:=by
        rw [q6,q4]
        simp only [Option.getD_some]
        exact List.ext_getElem? fun n=>by
         by_cases hn:n=i
         ·subst hn;rw [List.getElem?_set_self (List.getElem?_eq_some_iff.1 q1).1,q1]
         ·rw [List.getElem?_set_ne (by omega)]
       refine ⟨.tuple #[e.val,.int .i64 (i:Int)],{ w with heap:=w.heap.setIfInBounds (μ j) (.map (ents.modify i fun e=>{ e with key:=kv }) clock) },?_,?_⟩
       ·simp only [Nat.zero_add] at q5
        have hge:((ents[i]?).map (·.key)).getD kv=e.key:=by rw [q2'];rfl
        have hgb:(Option.map (fun x:MapEntry=>(x.born:Int)) ents[i]?).getD 0=(i:Int):=by rw [q2'];simp [hborn]
        simp only [Instr.mapEntry,Sem.run_bind,run_underlying hT,Result.andThen_ok,getObj,Sem.run,r1,ack hd hkey,ac3 hd q5,hge,hgb,s1,setObj,Sem.run_pure,goInt]
       ·rw [hes,q7]
        have hset:=hw.setMap hj (w':={ w with heap:=w.heap.setIfInBounds (μ j) (.map (ents.modify i fun e=>{ e with key:=kv }) clock) }) (ents:=ents.modify i fun e=>{ e with key:=kv }) (clock:=clock)
         (es':=es) (kc:=kc) (vc:=vc) (by simp [hlt]) (by simpa using r4) (fun b hb=>by simp [Array.getElem?_setIfInBounds_ne (fun e=>hb e.symm)]) (by simp) rfl rfl rfl
        refine (fun h3 h4=>by obtain ⟨u1,u2⟩:=hset r5 r6 h3 h4;exact ⟨_,_,_,_,_,Or.inl rfl,u1,u2,tup ..⟩) (And.intro (fun n f hf=>?_) (r7.2.same ?hs)) (r8.same Array.size_modify ?hs)
        ·rw [hmod] at hf
         by_cases hn:n=i
         ·subst hn
          rw [if_pos rfl] at hf;cases hf
          refine ⟨?_,(r7.1 n e q2').2⟩
          show kv=_
          rw [<-s2];exact (r7.1 n e q2').1
         ·rw [if_neg hn] at hf;exact r7.1 n f hf
        case hs=>
         intro n f hf
         rw [hmod] at hf
         by_cases hn:n=i
         ·subst hn;rw [if_pos rfl] at hf;cases hf;exact ⟨e,q2',rfl⟩
         ·rw [if_neg hn] at hf;exact ⟨f,hf,rfl⟩
      ·have hclk:clock=es.length:=by rw [r8.1,r4]
       refine ⟨.tuple #[z,.int .i64 (clock:Int)],{ w with heap:=w.heap.setIfInBounds (μ j) (.map (ents.push { key:=kv,val:=z,born:=clock }) (clock+1)) },?_,?_⟩
       ·simp [Instr.mapEntry,run_underlying hT,getObj,Sem.run,r1,ack hd hkey,ac3 hd q2,zeroValue,typeInfo,hi,hiz,setObj,goInt]
       ·rw [q6,q7,q1]
        simp only [Option.getD_none]
        rw [<-hclk]
        have hpush:∀ n,(ents.push { key:=kv,val:=z,born:=clock })[n]?=if n=ents.size then some { key:=kv,val:=z,born:=clock } else ents[n]?:=fun n=>Array.getElem?_push
        have hset:=hw.setMap hj (w':={ w with heap:=w.heap.setIfInBounds (μ j) (.map (ents.push { key:=kv,val:=z,born:=clock }) (clock+1)) }) (ents:=ents.push { key:=kv,val:=z,born:=clock }) (clock:=clock+1)
         (es':=es++[(toPV k,toPV (abd Γ.P 12 E))]) (kc:=upd kc ents.size kv.cells.toList) (vc:=upd vc ents.size z.cells.toList) (by simp [hlt]) (by simp [r4]) (fun b hb=>by simp [Array.getElem?_setIfInBounds_ne (fun e=>hb e.symm)]) (by simp) rfl rfl rfl
        refine (fun h1 h2 h3 h4=>by obtain ⟨u1,u2⟩:=hset h1 h2 h3 h4;exact ⟨_,_,_,_,_,Or.inl rfl,u1,u2,tup ..⟩) (fun n z hz=>?_) (fun n z hz=>?_) (And.intro (fun n f hf=>?_) (r7.2.push _ rfl)) (r8.push _ rfl)
        ·by_cases hn:n<es.length
         ·rw [List.getElem?_append_left hn] at hz;rw [aal _ _ (by omega)];exact r5 n z hz
         ·have hn':n=ents.size:=by have:=(List.getElem?_eq_some_iff.1 hz).1;simp at this;omega
          subst hn'
          rw [r4,List.getElem?_append_right (Nat.le_refl _)] at hz
          simp at hz;subst hz
          rw [aae];exact hrk
        ·by_cases hn:n<es.length
         ·rw [List.getElem?_append_left hn] at hz;rw [aal _ _ (by omega)];exact r6 n z hz
         ·have hn':n=ents.size:=by have:=(List.getElem?_eq_some_iff.1 hz).1;simp at this;omega
          subst hn'
          rw [r4,List.getElem?_append_right (Nat.le_refl _)] at hz
          simp at hz;subst hz
          rw [aae];exact hrz
        ·rw [hpush] at hf
         by_cases hn:n=ents.size
         ·subst hn
          rw [if_pos rfl] at hf;cases hf
          rw [aae,aae]
          exact ⟨hpk.symm,hze⟩
         ·rw [if_neg hn] at hf;rw [aal _ _ hn,aal _ _ hn];exact r7.1 n f hf
    ·simp at h
   ·simp at h
 ·simp at h
theorem ak0 (hw:WRel Γ D ow μ st w) (T:TypeId) (m s x:SV) (mv sv xv:Value) (v:SV) (st':List BX) (hm:SRep Γ.P D w ow μ st m mv) (hs:SRep Γ.P D w ow μ st s sv) (hx:SRep Γ.P D w ow μ st x xv)
 (h:abu Γ.P T st m s x=.upd true v st'):∃ w',(Instr.entryStore T mv sv xv).run Γ.P w=.ok () w'/\OpRes Γ D ow μ st w (.ok .skip w') v st':=by
 unfold abu at h
 split at h
 ·rename_i K E hT
  cases hc:isOf Γ.P E x with
  | false=>rw [hc] at h;simp at h
  | true=>
   rw [hc] at h
   simp only [cond_true] at h
   split at h
   ·rename_i j n
    split at h
    ·rename_i K' E' es hj
     cases hb:(Nat.beq K K'&&Nat.beq E E') with
     | false=>rw [hb] at h;simp at h
     | true=>
      rw [hb] at h
      simp only [Bool.and_eq_true] at hb
      have:=Nat.eq_of_beq_eq_true hb.1;subst this
      have:=Nat.eq_of_beq_eq_true hb.2;subst this
      simp only [cond_true,Ac.upd.injEq] at h
      obtain ⟨hin,rfl,rfl⟩:=h
      cases hm
      cases hs
      obtain ⟨i,rfl,hil⟩:∃ i:Nat,n=(i:Int)/\i<es.length:=by
       unfold aaa at hin
       simp only [Bool.and_eq_true,decide_eq_true_eq] at hin
       exact ⟨n.toNat,by omega,by omega⟩
      obtain ⟨ents,clock,kc,vc,r1,r2,r3,r4,r5,r6,r7,r8⟩:=hw.map j K E es hj
      have hrx:=aba hx E hc
      have hpx:=afa hx hc
      have hlt:μ j<w.heap.size:=(hw.owlt _ _ r2).1
      have hie:i<ents.size:=by omega
      obtain ⟨e,q2'⟩:∃ e,ents[i]?=some e:=⟨_,Array.getElem?_eq_getElem hie⟩
      obtain ⟨y,q1⟩:∃ y,es[i]?=some y:=⟨_,List.getElem?_eq_getElem hil⟩
      have hfind:ents.findIdx? (fun e=>(e.born:Int)==(i:Int))=some i:=by
       rw [Array.findIdx?_eq_some_iff_getElem]
       refine ⟨hie,?_,fun j' hj'=>?_⟩
       ·have:=r8.2 i ents[i] (Array.getElem?_eq_getElem hie)
        simp [this]
       ·have:=r8.2 j' ents[j'] (Array.getElem?_eq_getElem (by omega))
        simp [this];omega
      have hmod:∀ (n:Nat),(ents.modify i fun e=>{ e with val:=xv })[n]?=if n=i then some { e with val:=xv } else ents[n]?:=by
       intro n
       rw [Array.getElem?_modify]
       by_cases hn:i=n
       ·subst hn;simp [q2']
       ·rw [if_neg hn,if_neg (fun h=>hn h.symm)]
      refine ⟨{ w with heap:=w.heap.setIfInBounds (μ j) (.map (ents.modify i fun e=>{ e with val:=xv }) clock) },?_,?_⟩
      ·simp only [Instr.entryStore,Sem.run_bind,Result.andThen_ok,getObj,Sem.run,r1,asInt,asIntOf,Sem.run_pure,hfind,setObj]
      ·have hes:PV.mset es ((i:Int)).toNat (toPV x)=es.set i (y.1,toPV x):=by
        unfold PV.mset;rw [Int.toNat_natCast,q1]
       rw [hes]
       have hset:=hw.setMap hj (w':={ w with heap:=w.heap.setIfInBounds (μ j) (.map (ents.modify i fun e=>{ e with val:=xv }) clock) }) (ents:=ents.modify i fun e=>{ e with val:=xv }) (clock:=clock)
        (es':=es.set i (y.1,toPV x)) (kc:=kc) (vc:=upd vc i xv.cells.toList) (by simp [hlt]) (by simpa using r4) (fun b hb=>by simp [Array.getElem?_setIfInBounds_ne (fun e=>hb e.symm)]) (by simp) rfl rfl rfl
       refine (fun h1 h2 h3 h4=>by obtain ⟨u1,u2⟩:=hset h1 h2 h3 h4;exact ⟨_,_,_,_,_,Or.inr ⟨rfl,rfl⟩,u1,u2,.undef⟩) (fun n z hz=>?_) (fun n z hz=>?_) (And.intro (fun n f hf=>?_) (r7.2.same ?hs)) (r8.same Array.size_modify ?hs)
       ·by_cases hn:n=i
        ·subst hn
         rw [List.getElem?_set_self (List.getElem?_eq_some_iff.1 q1).1] at hz
         cases hz;exact r5 n y q1
        ·rw [List.getElem?_set_ne (by omega)] at hz;exact r5 n z hz
       ·by_cases hn:n=i
        ·subst hn
         rw [List.getElem?_set_self (List.getElem?_eq_some_iff.1 q1).1] at hz
         cases hz;rw [aae];exact hrx
        ·rw [List.getElem?_set_ne (by omega)] at hz;rw [aal _ _ hn];exact r6 n z hz
       ·rw [hmod] at hf
        by_cases hn:n=i
        ·subst hn
         rw [if_pos rfl] at hf;cases hf
         exact ⟨(r7.1 n e q2').1,by rw [aae];exact hpx.symm⟩
        ·rw [if_neg hn] at hf;rw [aal _ _ hn];exact r7.1 n f hf
       case hs=>
        intro n f hf
        rw [hmod] at hf
        by_cases hn:n=i
        ·subst hn;rw [if_pos rfl] at hf;cases hf;exact ⟨e,q2',rfl⟩
        ·rw [if_neg hn] at hf;exact ⟨f,hf,rfl⟩
    ·simp at h
   ·simp at h
 ·simp at h
end
end Go.Ab
