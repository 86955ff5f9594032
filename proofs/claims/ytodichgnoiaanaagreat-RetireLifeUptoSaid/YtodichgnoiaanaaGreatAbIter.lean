/- A range over a string. -/
import Derived.Test.YtodichgnoiaanaaGreatAbWrite
import Derived.MapKept
import Derived.Maps.RangeRun
set_option linter.unusedVariables false
set_option linter.unusedSimpArgs false
set_option linter.unnecessarySimpa false
namespace Go.Ab
open Go
section
variable {Γ:Ctx}{D:Dom}{ow:Own}{μ:Nat->Nat}{st:List BX}{w:World}
theorem at8 (hw:WRel Γ D ow μ st w) (T:TypeId) (x:SV) (xv:Value) (v:SV) (st':List BX) (hx:SRep Γ.P D w ow μ st x xv) (h:aic Γ.P T st x=.upd true v st'):∃ u w',(Instr.range T xv).run Γ.P w=.ok u w'/\OpRes Γ D ow μ st w (.ok (.value u) w') v st':=by
 have hD:∀ o,¬D w.heap.size o:=fun o d=>by have:=hw.dlt _ _ d;omega
 unfold aic at h
 split at h
 ·rename_i s hT
  simp only [Ac.upd.injEq,true_and] at h
  obtain ⟨rfl,rfl⟩:=h
  cases hx
  obtain ⟨h1,h2⟩:=hw.newOwn (.stringIter ⟨s.toArray⟩ 0) (.iter s 0) (fun m=>show IterRep _ _ _ _ _ _ _ from ⟨by rw [aae];exact aar _ _,by rw [aae,aae],by rw [aae];exact hD⟩)
  refine ⟨.pointer (some ⟨w.heap.size,0,none⟩),w.alloc (.stringIter ⟨s.toArray⟩ 0),by simp [Instr.range,run_underlying hT],_,_,_,_,_,Or.inl rfl,h1,h2,?_⟩
  have:=SRep.iref (P:=Γ.P) (D:=D) (w:=w.alloc (.stringIter ⟨s.toArray⟩ 0)) (ow:=upd ow w.heap.size (some st.length)) (μ:=upd μ st.length w.heap.size) (st:=st++[.iter s 0]) (k:=st.length) (s:=s) (p:=0)
   (by rw [List.getElem?_append_right (Nat.le_refl _)];simp)
  rwa [aae] at this
 ·rename_i K E K' E' es hT
  cases hb:(Nat.beq K K'&&Nat.beq E E') with
  | false=>rw [hb] at h;simp at h
  | true=>
   rw [hb] at h
   simp only [Bool.and_eq_true] at hb
   have:=Nat.eq_of_beq_eq_true hb.1;subst this
   have:=Nat.eq_of_beq_eq_true hb.2;subst this
   simp only [cond_true,Ac.upd.injEq,true_and] at h
   obtain ⟨rfl,rfl⟩:=h
   have fin:∀ o:Obj,(Instr.range T xv).run Γ.P w=.ok (.pointer (some ⟨w.heap.size,0,none⟩)) (w.alloc o)->(Moves D w ow μ st D (w.alloc o) (upd ow w.heap.size (some st.length)) (upd μ st.length w.heap.size) (st++[.mit K E none es])->au3 Γ.P D (w.alloc o) (upd ow w.heap.size (some st.length)) (upd μ st.length w.heap.size) st.length K E none es)->
    ∃ u w',(Instr.range T xv).run Γ.P w=.ok u w'/\OpRes Γ D ow μ st w (.ok (.value u) w') (.mitr st.length) (st++[.mit K E none es]):=by
    intro o hr hm
    obtain ⟨h1,h2⟩:=hw.newOwn o (.mit K E none es) hm
    refine ⟨_,_,hr,_,_,_,_,_,Or.inl rfl,h1,h2,?_⟩
    have:=SRep.mitr (P:=Γ.P) (D:=D) (w:=w.alloc o) (ow:=upd ow w.heap.size (some st.length)) (μ:=upd μ st.length w.heap.size) (st:=st++[.mit K E none es]) (k:=st.length) (K:=K) (E:=E) (c:=none) (es:=es)
     (by rw [List.getElem?_append_right (Nat.le_refl _)];simp)
    rwa [aae] at this
   cases hx with
   | map hm=>
    cases hm with
    | nil=>
     refine fin (.mapIter none 0 #[] 0) (by simp [Instr.range,run_underlying hT]) (fun m=>⟨by rw [aae];exact hD,by rw [aae,aae],none,0,0,#[],by rw [aae];exact aar _ _,Or.inl ⟨rfl,rfl⟩,fun e h=>by cases h⟩)
    | @mk r clock ents _ kc vc hh hd hs h1 h2 h3=>
     have hl:leftOf ents #[]=ents:=by simp [leftOf]
     have hlt:r<w.heap.size:=hw.dlt _ _ hd
     refine fin (.mapIter (some r) clock #[] clock) (by simp [Instr.range,run_underlying hT,getObj,Sem.run,hh]) (fun m=>⟨by rw [aae];exact hD,by rw [aae,aae],some r,clock,clock,#[],by rw [aae];exact aar _ _,
      Or.inr ⟨r,clock,ents,kc,vc,rfl,hd,(abn w _ r hlt).trans hh,rfl,Nat.le_refl _,h3.2,by rw [hl];exact hs,fun i x hx=>(h1 i x hx).mono m.dom m.keeps,fun i x hx=>(h2 i x hx).mono m.dom m.keeps,by rw [hl];exact h3.1⟩,fun e h=>by cases h⟩)
 ·cases h
theorem WRel.setIter (hw:WRel Γ D ow μ st w) {k p p':Nat}{s:List UInt8} (hk:st[k]?=some (.iter s p)) {w':World}
 (hh:w'.heap[μ k]?=some (.stringIter ⟨s.toArray⟩ p')) (ho:∀ b,b≠μ k->w'.heap[b]?=w.heap[b]?) (hsz:w'.heap.size=w.heap.size) (hos:w'.os=w.os) (htp:w'.tape=w.tape) (hou:w'.output=w.output):
 WRel Γ D ow μ (st.set k (.iter s p')) w'/\Moves D w ow μ st D w' ow μ (st.set k (.iter s p')):=by
 have hlt:=(List.getElem?_eq_some_iff.1 hk).1
 obtain ⟨b1,b3,b4⟩:=hw.obj k _ hk
 have ne:∀ {j:Nat}{y:BX},st[j]?=some y->j≠k->(st.set k (.iter s p'))[j]?=some y:=fun e hj=>by rw [List.getElem?_set_ne (by omega)];exact e
 have same:(st.set k (.iter s p'))[k]?=some (.iter s p'):=by rw [List.getElem?_set_self hlt]
 have hkp:Keeps D w w':=Keeps.of_heap fun b o d=>ho b (fun e=>by subst e;exact b4 o d)
 have m:Moves D w ow μ st D w' ow μ (st.set k (.iter s p')):=by
  refine ⟨fun _ _ d=>d,hkp,fun j T x e=>⟨rfl,x,?_⟩,fun j K E es e=>⟨rfl,es,?_⟩,fun j b e hs=>⟨rfl,?_⟩,fun j E g xs e=>?_,fun j g e=>?_⟩
  ·by_cases hj:j=k
   ·subst hj;rw [hk] at e;cases e
   ·exact ne e hj
  ·by_cases hj:j=k
   ·subst hj;rw [hk] at e;cases e
   ·exact ne e hj
  ·by_cases hj:j=k
   ·subst hj;rw [hk] at e;cases e;exact ⟨_,same,rfl⟩
   ·exact ⟨_,ne e hj,rfl⟩
  ·by_cases hj:j=k
   ·subst hj;rw [hk] at e;cases e
   ·refine ⟨g,xs,ne e hj,Nat.le_refl _,fun _=>⟨rfl,fun cur hc hoj=>⟨rfl,hoj,cur,(ho _ (fun hmu=>?_)).trans hc,rfl⟩⟩⟩
    rw [hmu,b3] at hoj;cases hoj;exact hj rfl
  ·by_cases hj:j=k
   ·subst hj;rw [hk] at e;cases e
   ·refine ⟨g,ne e hj,Nat.le_refl _,fun _ b ob=>⟨ho b (fun hb=>?_),ob,fun _ d=>d⟩⟩
    subst hb;rw [b3] at ob;cases ob;exact hj rfl
 have par':∀ j,j<Γ.np->∃ b,(st.set k (.iter s p'))[j]?=some b/\b.kind=Γ.K0 j:=by
  intro j hj
  obtain ⟨x,hx,p1⟩:=hw.par j hj
  by_cases hjk:j=k
  ·subst hjk;rw [hk] at hx;cases hx;exact ⟨_,same,p1⟩
  ·exact ⟨x,ne hx hjk,p1⟩
 refine ⟨⟨fun j T x e=>?_,fun j K E es e=>?_,fun j x e=>?_,fun b j o=>?_,fun b o d=>by rw [hsz];exact hw.dlt b o d,hos.trans hw.os,htp.trans hw.tape,hou.trans hw.output,by rw [hsz];exact hw.hs,fun b hb hn=>?_,hw.dom0,hw.domN,hw.owN,by simpa using hw.np,hw.mu0,par',fun b j y ob e hy o d=>?_,hw.keep0.trans m.keeps hw.dom0,hw.arr0_moves m par'⟩,m⟩
 ·by_cases hj:j=k
  ·subst hj;rw [same] at e;cases e
  ·rw [List.getElem?_set_ne (by omega)] at e
   obtain ⟨c,T1,q1,q2,q3,q4,q5⟩:=hw.box j T x e
   have hne:μ j≠μ k:=fun hmu=>by rw [hmu,b3] at q3;cases q3;exact hj rfl
   exact BoxRep.mono ⟨c,T1,q1,q2,q3,q4,q5⟩ m rfl (ho _ hne) q3 q4
 ·by_cases hj:j=k
  ·subst hj;rw [same] at e;cases e
  ·rw [List.getElem?_set_ne (by omega)] at e
   obtain ⟨ents,clock,kc,vc,q1,q2,q3⟩:=hw.map j K E es e
   have hne:μ j≠μ k:=fun hmu=>by rw [hmu,b3] at q2;cases q2;exact hj rfl
   exact OMapRep.mono ⟨ents,clock,kc,vc,q1,q2,q3⟩ m.dom m.keeps rfl (ho _ hne) q2 q3.1
 ·by_cases hj:j=k
  ·subst hj;rw [same] at e;cases e;exact ⟨hh,b3,b4⟩
  ·rw [List.getElem?_set_ne (by omega)] at e
   refine (hw.obj j x e).mono m.dom m.keeps (fun _=>rfl) (fun c oc=>⟨ho c (fun hb=>?_),oc,fun _ d=>d⟩)
   subst hb;rw [b3] at oc;cases oc;exact hj rfl
 ·have:=hw.owlt b j o
  rw [hsz];simpa using this
 ·by_cases hbk:b=μ k
  ·subst hbk
   have:=hw.owN _ _ b3 hb
   rw [hn] at this;cases this
  ·exact (ho b hbk).trans (hw.old b hb hn)
 ·by_cases hj:j=k
  ·subst hj;exact hw.lone b j _ ob hk (by simp) o d
  ·rw [List.getElem?_set_ne (by omega)] at e
   exact hw.lone b j y ob e hy o d
theorem a5r (hw:WRel Γ D ow μ st w) {k:Nat}{K E:TypeId}{c:Option (PV×PV)} (hk:st[k]?=some (.mit K E c [])) (ty:TypeId):(Instr.next (.pointer (some ⟨μ k,0,none⟩)) false ty).run Γ.P w=.ok (.tuple #[.bool false]) w:=by
 obtain ⟨b4,b3,m,since,c0,seen,hh,hm,_⟩:=hw.obj k _ hk
 rcases hm with ⟨rfl,_⟩ | ⟨r,clock,ents,kc,vc,rfl,hd,hr,rfl,hc,hb,hs,r1,r2,r3⟩
 ·simp [Instr.next,getObj,Sem.run,hh]
 ·have hold:∀ x∈ents.toList,x.born<since:=by
   intro x hx
   obtain ⟨i,hi⟩:=List.mem_iff_getElem?.1 hx
   exact hb.1 i x (by simpa using hi)
  rcases run_next_at (P:=Γ.P) w ty (μ k) r since c0 seen ents since hh hr hold hc with ⟨_,h⟩ | ⟨e,h,_⟩
  ·exact h
  ·have:=List.length_pos_of_mem h
   simp at hs;simp [hs] at this
theorem axi (hw:WRel Γ D ow μ st w) (x:SV) (xv:Value) (b:Bool) (ty:TypeId) (v:SV) (st':List BX) (hx:SRep Γ.P D w ow μ st x xv) (h:amf st x b=.upd true v st'):∃ u w',(Instr.next xv b ty).run Γ.P w=.ok u w'/\OpRes Γ D ow μ st w (.ok (.value u) w') v st':=by
 unfold amf at h
 split at h
 ·rename_i k
  split at h
  ·rename_i s p hk
   simp only [Ac.upd.injEq,true_and] at h
   obtain ⟨rfl,rfl⟩:=h
   cases hx with
   | iref _=>
    obtain ⟨b1,b3,b4⟩:=hw.obj k _ hk
    have hlt:μ k<w.heap.size:=(hw.owlt _ _ b3).1
    have hg:(getObj (μ k)).run Γ.P w=.ok (.stringIter ⟨s.toArray⟩ p) w:=by simp [getObj,Sem.run,b1]
    have hsz:(⟨s.toArray⟩:ByteArray).size=s.length:=rfl
    by_cases hp:p<s.length
    ·have hset:∀ o,(setObj (μ k) o).run Γ.P w=.ok () { w with heap:=w.heap.setIfInBounds (μ k) o }:=fun o=>by simp [setObj,Sem.run,b1]
     obtain ⟨h1,h2⟩:=hw.setIter hk (w':={ w with heap:=w.heap.setIfInBounds (μ k) (.stringIter ⟨s.toArray⟩ (p+(Utf8.decode ⟨s.toArray⟩ p).2)) }) (p':=p+(Utf8.decode ⟨s.toArray⟩ p).2)
      (by simp [hlt]) (fun b hb=>by simp only;rw [Array.getElem?_setIfInBounds_ne (Ne.symm hb)]) (by simp) rfl rfl rfl
     refine ⟨.tuple #[.bool true,.int .i64 p,.int .i32 (Utf8.decode ⟨s.toArray⟩ p).1],_,?_,_,_,_,_,_,Or.inl rfl,by simpa [hp] using h1,by simpa [hp] using h2,.nx (fun _=>rfl) (fun hf=>by simp [hp] at hf)⟩
     unfold Instr.next
     simp only [Sem.run_bind,hg,Result.andThen_ok,hsz,if_pos hp,hset,Sem.run_pure]
     rfl
    ·have e1:st.set k (.iter s (bif decide (p<s.length) then p+(Utf8.decode ⟨s.toArray⟩ p).2 else p))=st:=by
      simp only [hp,decide_false,cond_false]
      apply List.ext_getElem?
      intro j
      rw [List.getElem?_set]
      split
      ·rename_i hj;subst hj;split
       ·exact hk.symm
       ·rename_i hn;exact absurd (List.getElem?_eq_some_iff.1 hk).1 hn
      ·rfl
     rw [e1]
     refine ⟨.tuple #[.bool false],w,?_,_,_,_,_,_,Or.inl rfl,hw,Moves.refl _ _ _ _ _,.nx (fun hf=>by simp [hp] at hf) (fun _=>rfl)⟩
     unfold Instr.next
     simp only [Sem.run_bind,hg,Result.andThen_ok,hsz,if_neg hp,Sem.run_pure]
  ·cases h
 ·rename_i k
  split at h
  ·rename_i K E c es hk
   simp only [Ac.upd.injEq] at h
   obtain ⟨he,rfl,rfl⟩:=h
   cases es with
   | cons _ _=>simp at he
   | nil=>
    cases hx with
    | mitr _=>
     refine ⟨_,w,a5r hw hk ty,_,_,_,_,_,Or.inl rfl,hw,Moves.refl _ _ _ _ _,.tup rfl (fun i s v hs hv=>?_)⟩
     match i,hs,hv with
     | 0,hs,hv=>simp at hs hv;subst hs;subst hv;exact .bool
  ·cases h
 ·cases h
end
end Go.Ab
