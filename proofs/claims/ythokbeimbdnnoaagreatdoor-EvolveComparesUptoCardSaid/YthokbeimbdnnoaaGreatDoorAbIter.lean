/- A range over a string. -/
import Derived.Test.YthokbeimbdnnoaaGreatDoorAbWrite
import Derived.MapKept
import Derived.Maps.RangeRun
set_option linter.unusedVariables false
set_option linter.unusedSimpArgs false
set_option linter.unnecessarySimpa false
namespace Go.Ab
open Go
section
variable {Γ:Ctx}{D:Dom}{ow:Own}{μ:Nat->Nat}{st:List BX}{w:World}
theorem as7 (O:WRel Γ D ow μ st w) (T:TypeId) (x:SV) (xv:Value) (v:SV) (st':List BX) (z:SRep Γ.P D w ow μ st x xv) (h:aig Γ.P T st x=.upd true v st'):∃ u w',(Instr.range T xv).run Γ.P w=.ok u w'/\OpRes Γ D ow μ st w (.ok (.value u) w') v st':=by
 have Z:∀ o,¬D w.heap.size o:=λo d=>by have:=O.dlt _ _ d;omega
 unfold aig at h;split at h
 ·rename_i s M;simp only [Ac.upd.injEq,true_and] at h;obtain ⟨rfl,rfl⟩:=h;cases z;obtain ⟨H,I⟩:=O.newOwn (.stringIter ⟨s.toArray⟩ 0) (.iter s 0) (λm=>show IterRep _ _ _ _ _ _ _ from ⟨by rw [aah];exact aas _ _,by rw [aah,aah],by rw [aah];exact Z⟩);refine ⟨.pointer (some ⟨w.heap.size,0,none⟩),w.alloc (.stringIter ⟨s.toArray⟩ 0),by simp [Instr.range,run_underlying M],_,_,_,_,_,Or.inl rfl,H,I,?_⟩;have:=SRep.iref (P:=Γ.P) (D:=D) (w:=w.alloc (.stringIter ⟨s.toArray⟩ 0)) (ow:=upd ow w.heap.size (some st.length)) (μ:=upd μ st.length w.heap.size) (st:=st++[.iter s 0]) (k:=st.length) (s:=s) (p:=0)
   (by rw [Av (Nat.le_refl _)];simp)
  rwa [aah] at this
 ·rename_i K E K' E' es M;cases J:(Nat.beq K K'&&Nat.beq E E') with
  | false=>rw [J] at h;simp at h
  | true=>
   rw [J] at h;simp only [Ai] at J;have:=Aa J.1;subst this;have:=Aa J.2;subst this;simp only [Af,Ac.upd.injEq,true_and] at h;obtain ⟨rfl,rfl⟩:=h;have fin:∀ o:Obj,(Instr.range T xv).run Γ.P w=.ok (.pointer (some ⟨w.heap.size,0,none⟩)) (w.alloc o)->(Moves D w ow μ st D (w.alloc o) (upd ow w.heap.size (some st.length)) (upd μ st.length w.heap.size) (st++[.mit K E es])->a3t Γ.P D (w.alloc o) (upd ow w.heap.size (some st.length)) (upd μ st.length w.heap.size) st.length K E es)->
    ∃ u w',(Instr.range T xv).run Γ.P w=.ok u w'/\OpRes Γ D ow μ st w (.ok (.value u) w') (.mitr st.length) (st++[.mit K E es]):=by
    intro o hr hm
    obtain ⟨H,I⟩:=O.newOwn o (.mit K E es) hm
    refine ⟨_,_,hr,_,_,_,_,_,Or.inl rfl,H,I,?_⟩
    have:=SRep.mitr (P:=Γ.P) (D:=D) (w:=w.alloc o) (ow:=upd ow w.heap.size (some st.length)) (μ:=upd μ st.length w.heap.size) (st:=st++[.mit K E es]) (k:=st.length) (K:=K) (E:=E) (es:=es)
     (by rw [Av (Nat.le_refl _)];simp)
    rwa [aah] at this
   cases z with
   | map hm=>
    cases hm with
    | nil=>refine fin (.mapIter none 0 #[] 0) (by simp [Instr.range,run_underlying M]) (λm=>⟨by rw [aah];exact Z,by rw [aah,aah],none,0,0,#[],by rw [aah];exact aas _ _,Or.inl ⟨rfl,rfl⟩⟩)
    | @mk r clock ents _ kc vc hh hd hs H I h3=>
     have hl:leftOf ents #[]=ents:=by simp [leftOf]
     have aa:r<w.heap.size:=O.dlt _ _ hd;refine fin (.mapIter (some r) clock #[] clock) (by simp [Instr.range,run_underlying M,getObj,Sem.run,hh]) (λm=>⟨by rw [aah];exact Z,by rw [aah,aah],some r,clock,clock,#[],by rw [aah];exact aas _ _,
      Or.inr ⟨r,clock,ents,kc,vc,rfl,hd,(aa4 w _ r aa).trans hh,rfl,Nat.le_refl _,h3.2,by rw [hl];exact hs,λi x z=>(H i x z).mono m.dom m.keeps,λi x z=>(I i x z).mono m.dom m.keeps,by rw [hl];exact h3.1⟩⟩)
 ·cases h
theorem WRel.setIter (z:WRel Γ D ow μ st w) {k p p':Nat}{s:Bq} (J:st[k]?=some (.iter s p)) {w':World}
 (hh:w'.heap[μ k]?=some (.stringIter ⟨s.toArray⟩ p')) (ho:∀ b,b≠μ k->w'.heap[b]?=w.heap[b]?) (ab:w'.heap.size=w.heap.size) (ah:w'.os=w.os) (aj:w'.tape=w.tape) (ai:w'.output=w.output):
 WRel Γ D ow μ (st.set k (.iter s p')) w'/\Moves D w ow μ st D w' ow μ (st.set k (.iter s p')):=by
 have ag:=(List.getElem?_eq_some_iff.1 J).1
 obtain ⟨b1,O,b4⟩:=z.obj k _ J
 have ne:∀ {j:Nat}{y:BX},st[j]?=some y->j≠k->(st.set k (.iter s p'))[j]?=some y:=λe h=>by rw [Ar (by omega)];exact e
 have H:(st.set k (.iter s p'))[k]?=some (.iter s p'):=by rw [List.getElem?_set_self ag]
 have af:Keeps D w w':=Keeps.of_heap λb o d=>ho b (λe=>by subst e;exact b4 o d)
 have m:Moves D w ow μ st D w' ow μ (st.set k (.iter s p')):=by
  refine ⟨λ_ _ d=>d,af,λj T x e=>⟨rfl,x,?_⟩,λj K E es e=>⟨rfl,es,?_⟩,λj b e hs=>⟨rfl,?_⟩,λj E g xs e=>?_,λj g e=>?_⟩
  ·by_cases h:j=k
   ·subst h;rw [J] at e;cases e
   ·exact ne e h
  ·by_cases h:j=k
   ·subst h;rw [J] at e;cases e
   ·exact ne e h
  ·by_cases h:j=k
   ·subst h;rw [J] at e;cases e;exact ⟨_,H,rfl⟩
   ·exact ⟨_,ne e h,rfl⟩
  ·by_cases h:j=k
   ·subst h;rw [J] at e;cases e
   ·refine ⟨g,xs,ne e h,Nat.le_refl _,λ_=>⟨rfl,λcur hc aa=>⟨rfl,aa,cur,(ho _ (λI=>?_)).trans hc,rfl⟩⟩⟩;rw [I,O] at aa;cases aa;exact h rfl
  ·by_cases h:j=k
   ·subst h;rw [J] at e;cases e
   ·refine ⟨g,ne e h,Nat.le_refl _,λ_ b ob=>⟨ho b (λhb=>?_),ob,λ_ d=>d⟩⟩;subst hb;rw [O] at ob;cases ob;exact h rfl
 have M:∀ j,j<Γ.np->∃ b,(st.set k (.iter s p'))[j]?=some b/\b.kind=Γ.K0 j:=by
  intro j h;obtain ⟨x,hx,p1⟩:=z.par j h;by_cases ae:j=k
  ·subst ae;rw [J] at hx;cases hx;exact ⟨_,H,p1⟩
  ·exact ⟨x,ne hx ae,p1⟩
 refine ⟨⟨λj T x e=>?_,λj K E es e=>?_,λj x e=>?_,λb j o=>?_,λb o d=>by rw [ab];exact z.dlt b o d,ah.trans z.os,aj.trans z.tape,ai.trans z.output,by rw [ab];exact z.hs,λb hb hn=>?_,z.dom0,z.domN,z.owN,by simpa using z.np,z.mu0,M,λb j y ob e hy o d=>?_,z.keep0.trans m.keeps z.dom0,z.arr0_moves m M⟩,m⟩
 ·by_cases h:j=k
  ·subst h;rw [H] at e;cases e
  ·rw [Ar (by omega)] at e;obtain ⟨c,T1,q1,q2,q3,q4,q5⟩:=z.box j T x e;have Z:μ j≠μ k:=λI=>by rw [I,O] at q3;cases q3;exact h rfl
   exact BoxRep.mono ⟨c,T1,q1,q2,q3,q4,q5⟩ m rfl (ho _ Z) q3 q4
 ·by_cases h:j=k
  ·subst h;rw [H] at e;cases e
  ·rw [Ar (by omega)] at e;obtain ⟨ents,clock,kc,vc,q1,q2,q3⟩:=z.map j K E es e;have Z:μ j≠μ k:=λI=>by rw [I,O] at q2;cases q2;exact h rfl
   exact OMapRep.mono ⟨ents,clock,kc,vc,q1,q2,q3⟩ m.dom m.keeps rfl (ho _ Z) q2 q3.1
 ·by_cases h:j=k
  ·subst h;rw [H] at e;cases e;exact ⟨hh,O,b4⟩
  ·rw [Ar (by omega)] at e;refine (z.obj j x e).mono m.dom m.keeps (λ_=>rfl) (λc oc=>⟨ho c (λhb=>?_),oc,λ_ d=>d⟩);subst hb;rw [O] at oc;cases oc;exact h rfl
 ·have:=z.owlt b j o;rw [ab];simpa using this
 ·by_cases ad:b=μ k
  ·subst ad;have:=z.owN _ _ O hb;rw [hn] at this;cases this
  ·exact (ho b ad).trans (z.old b hb hn)
 ·by_cases h:j=k
  ·subst h;exact z.lone b j _ ob J (by simp) o d
  ·rw [Ar (by omega)] at e;exact z.lone b j y ob e hy o d
theorem a6a (hw:WRel Γ D ow μ st w) {k:Nat}{K E:TypeId} (hk:st[k]?=some (.mit K E [])) (M:TypeId):(Instr.next (.pointer (some ⟨μ k,0,none⟩)) false M).run Γ.P w=.ok (.tuple #[.bool false]) w:=by
 obtain ⟨b4,b3,m,o,O,H,I,hm⟩:=hw.obj k _ hk;rcases hm with ⟨rfl,_⟩ | ⟨r,clock,ents,kc,vc,rfl,hd,hr,rfl,hc,Z,J,r1,r2,r3⟩
 ·simp [Instr.next,getObj,Sem.run,I]
 ·have z:∀ x∈ents.toList,x.born<o:=by
   intro x hx;obtain ⟨i,hi⟩:=List.mem_iff_getElem?.1 hx;exact Z.1 i x (by simpa using hi)
  rcases run_next_at (P:=Γ.P) w M (μ k) r o O H ents o I hr z hc with ⟨_,h⟩ | ⟨e,h,_⟩
  ·exact h
  ·have:=List.length_pos_of_mem h;simp at J;simp [J] at this
theorem awe (I:WRel Γ D ow μ st w) (x:SV) (xv:Value) (b:Bool) (ty:TypeId) (v:SV) (st':List BX) (hx:SRep Γ.P D w ow μ st x xv) (h:al7 st x b=.upd true v st'):∃ u w',(Instr.next xv b ty).run Γ.P w=.ok u w'/\OpRes Γ D ow μ st w (.ok (.value u) w') v st':=by
 unfold al7 at h;split at h
 ·rename_i k;split at h
  ·rename_i s p H;simp only [Ac.upd.injEq,true_and] at h;obtain ⟨rfl,rfl⟩:=h;cases hx with
   | iref _=>
    obtain ⟨b1,b3,b4⟩:=I.obj k _ H;have aa:μ k<w.heap.size:=(I.owlt _ _ b3).1;have hg:(getObj (μ k)).run Γ.P w=.ok (.stringIter ⟨s.toArray⟩ p) w:=by simp [getObj,Sem.run,b1]
    have M:(⟨s.toArray⟩:ByteArray).size=s.length:=rfl;by_cases z:p<s.length
    ·have J:∀ o,(setObj (μ k) o).run Γ.P w=.ok () { w with heap:=w.heap.setIfInBounds (μ k) o }:=λo=>by simp [setObj,Sem.run,b1]
     obtain ⟨h1,h2⟩:=I.setIter H (w':={ w with heap:=w.heap.setIfInBounds (μ k) (.stringIter ⟨s.toArray⟩ (p+(Utf8.decode ⟨s.toArray⟩ p).2)) }) (p':=p+(Utf8.decode ⟨s.toArray⟩ p).2)
      (by simp [aa]) (λb hb=>by simp only;rw [Array.getElem?_setIfInBounds_ne (Ne.symm hb)]) (by simp) rfl rfl rfl
     refine ⟨.tuple #[.bool true,.int .i64 p,.int .i32 (Utf8.decode ⟨s.toArray⟩ p).1],_,?_,_,_,_,_,_,Or.inl rfl,by simpa [z] using h1,by simpa [z] using h2,.nx (λ_=>rfl) (λhf=>by simp [z] at hf)⟩;unfold Instr.next;simp only [Sem.run_bind,hg,Result.andThen_ok,M,if_pos z,J,Sem.run_pure];rfl
    ·have e1:st.set k (.iter s (bif decide (p<s.length) then p+(Utf8.decode ⟨s.toArray⟩ p).2 else p))=st:=by
      simp only [z,decide_false,Ah];apply List.ext_getElem?;intro j;rw [List.getElem?_set];split
      ·rename_i hj;subst hj;split
       ·exact H.symm
       ·rename_i hn;exact absurd (List.getElem?_eq_some_iff.1 H).1 hn
      ·rfl
     rw [e1];refine ⟨.tuple #[.bool false],w,?_,_,_,_,_,_,Or.inl rfl,I,Moves.refl _ _ _ _ _,.nx (λhf=>by simp [z] at hf) (λ_=>rfl)⟩;unfold Instr.next;simp only [Sem.run_bind,hg,Result.andThen_ok,M,if_neg z,Sem.run_pure]
  ·cases h
 ·rename_i k;split at h
  ·rename_i K E es H;simp only [Ac.upd.injEq] at h;obtain ⟨he,rfl,rfl⟩:=h;cases es with
   | cons _ _=>simp at he
   | nil=>
    cases hx with
    | mitr _=>
     refine ⟨_,w,a6a I H ty,_,_,_,_,_,Or.inl rfl,I,Moves.refl _ _ _ _ _,.tup rfl (λi s v O Z=>?_)⟩;match i,O,Z with
     | 0,O,Z=>simp at O Z;subst O;subst Z;exact .bool
  ·cases h
 ·cases h
end
end Go.Ab
