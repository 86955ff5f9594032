/- A range over a string. -/
import Derived.Test.YtjogoleiodbfdaaGreatDoorAbWrite
import Derived.MapKept
import Derived.Maps.RangeRun
set_option linter.unusedVariables false
set_option linter.unusedSimpArgs false
set_option linter.unnecessarySimpa false
namespace Go.Ab
open Go
section
variable {Γ:Ctx}{D:Dom}{ow:Own}{μ:Nat->Nat}{st:List BX}{w:World}
theorem aun (Z:WRel Γ D ow μ st w) (T:TypeId) (x:SV) (xv:Value) (v:SV) (st':List BX) (H:SRep Γ.P D w ow μ st x xv) (h:ai2 Γ.P T st x=.upd true v st'):∃ u w',(Instr.range T xv).run Γ.P w=.ok u w'/\OpRes Γ D ow μ st w (.ok (.value u) w') v st':=by
 have hD:∀ o,¬D w.heap.size o:=λo d=>by have:=Z.dlt _ _ d;omega
 unfold ai2 at h;split at h
 ·rename_i s O;simp only [Ac.upd.injEq,true_and] at h;obtain ⟨rfl,rfl⟩:=h;cases H;obtain ⟨I,J⟩:=Z.newOwn (.stringIter ⟨s.toArray⟩ 0) (.iter s 0) (λm=>show IterRep _ _ _ _ _ _ _ from ⟨by rw [aai];exact aas _ _,by rw [aai,aai],by rw [aai];exact hD⟩);refine ⟨.pointer (some ⟨w.heap.size,0,none⟩),w.alloc (.stringIter ⟨s.toArray⟩ 0),by simp [Instr.range,run_underlying O],_,_,_,_,_,Or.inl rfl,I,J,?_⟩;have:=SRep.iref (P:=Γ.P) (D:=D) (w:=w.alloc (.stringIter ⟨s.toArray⟩ 0)) (ow:=upd ow w.heap.size (some st.length)) (μ:=upd μ st.length w.heap.size) (st:=st++[.iter s 0]) (k:=st.length) (s:=s) (p:=0)
   (by rw [A3 (Nat.le_refl _)];simp)
  rwa [aai] at this
 ·rename_i K E K' E' es O;cases M:(Nat.beq K K'&&Nat.beq E E') with
  | false=>rw [M] at h;simp at h
  | true=>
   rw [M] at h;simp only [Aj] at M;have:=Ae M.1;subst this;have:=Ae M.2;subst this;simp only [Af,Ac.upd.injEq,true_and] at h;obtain ⟨rfl,rfl⟩:=h;have fin:∀ o:Obj,(Instr.range T xv).run Γ.P w=.ok (.pointer (some ⟨w.heap.size,0,none⟩)) (w.alloc o)->(Moves D w ow μ st D (w.alloc o) (upd ow w.heap.size (some st.length)) (upd μ st.length w.heap.size) (st++[.mit K E none es])->avm Γ.P D (w.alloc o) (upd ow w.heap.size (some st.length)) (upd μ st.length w.heap.size) st.length K E none es)->
    ∃ u w',(Instr.range T xv).run Γ.P w=.ok u w'/\OpRes Γ D ow μ st w (.ok (.value u) w') (.mitr st.length) (st++[.mit K E none es]):=by
    intro o hr hm
    obtain ⟨I,J⟩:=Z.newOwn o (.mit K E none es) hm
    refine ⟨_,_,hr,_,_,_,_,_,Or.inl rfl,I,J,?_⟩
    have:=SRep.mitr (P:=Γ.P) (D:=D) (w:=w.alloc o) (ow:=upd ow w.heap.size (some st.length)) (μ:=upd μ st.length w.heap.size) (st:=st++[.mit K E none es]) (k:=st.length) (K:=K) (E:=E) (c:=none) (es:=es)
     (by rw [A3 (Nat.le_refl _)];simp)
    rwa [aai] at this
   cases H with
   | map hm=>
    cases hm with
    | nil=>refine fin (.mapIter none 0 #[] 0) (by simp [Instr.range,run_underlying O]) (λm=>⟨by rw [aai];exact hD,by rw [aai,aai],none,0,0,#[],by rw [aai];exact aas _ _,Or.inl ⟨rfl,rfl⟩,λe h=>by cases h⟩)
    | @mk r clock ents _ kc vc hh hd hs I J h3=>
     have hl:leftOf ents #[]=ents:=by simp [leftOf]
     have aa:r<w.heap.size:=Z.dlt _ _ hd;refine fin (.mapIter (some r) clock #[] clock) (by simp [Instr.range,run_underlying O,getObj,Sem.run,hh]) (λm=>⟨by rw [aai];exact hD,by rw [aai,aai],some r,clock,clock,#[],by rw [aai];exact aas _ _,
      Or.inr ⟨r,clock,ents,kc,vc,rfl,hd,(aa6 w _ r aa).trans hh,rfl,Nat.le_refl _,h3.2,by rw [hl];exact hs,λi x H=>(I i x H).mono m.dom m.keeps,λi x H=>(J i x H).mono m.dom m.keeps,by rw [hl];exact h3.1⟩,λe h=>by cases h⟩)
 ·cases h
theorem WRel.setIter (h:WRel Γ D ow μ st w) {k p p':Nat}{s:Bt} (hk:st[k]?=some (.iter s p)) {w':World}
 (hh:w'.heap[μ k]?=some (.stringIter ⟨s.toArray⟩ p')) (O:∀ b,b≠μ k->w'.heap[b]?=w.heap[b]?) (ab:w'.heap.size=w.heap.size) (ah:w'.os=w.os) (aj:w'.tape=w.tape) (ai:w'.output=w.output):
 WRel Γ D ow μ (st.set k (.iter s p')) w'/\Moves D w ow μ st D w' ow μ (st.set k (.iter s p')):=by
 have ak:=(Bg.1 hk).1
 obtain ⟨b1,b3,b4⟩:=h.obj k _ hk
 have ne:∀ {j:Nat}{y:BX},st[j]?=some y->j≠k->(st.set k (.iter s p'))[j]?=some y:=λe H=>by grind
 have I:(st.set k (.iter s p'))[k]?=some (.iter s p'):=by grind
 have af:Keeps D w w':=Keeps.of_heap λb o d=>O b (λe=>by grind)
 have m:Moves D w ow μ st D w' ow μ (st.set k (.iter s p')):=by
  refine ⟨λ_ _ d=>d,af,λj T x e=>⟨rfl,x,?_⟩,λj K E es e=>⟨rfl,es,?_⟩,λj b e hs=>⟨rfl,?_⟩,λj E g xs e=>?_,λj g e=>?_⟩
  ·grind
  ·grind
  ·by_cases H:j=k
   ·subst H;rw [hk] at e;cases e;exact ⟨_,I,rfl⟩
   grind
  ·by_cases H:j=k
   ·grind
   ·refine ⟨g,xs,ne e H,Nat.le_refl _,λ_=>⟨rfl,λad hc ag=>⟨rfl,ag,ad,(O _ (λaa=>?_)).trans hc,rfl⟩⟩⟩;grind
  grind
 have J:∀ j,j<Γ.np->∃ b,(st.set k (.iter s p'))[j]?=some b/\b.kind=Γ.K0 j:=by
  intro j H;obtain ⟨x,hx,p1⟩:=h.par j H;by_cases ae:j=k
  ·subst ae;rw [hk] at hx;cases hx;exact ⟨_,I,p1⟩
  grind
 refine ⟨⟨λj T x e=>?_,λj K E es e=>?_,λj x e=>?_,λb j o=>?_,λb o d=>by rw [ab];exact h.dlt b o d,ah.trans h.os,aj.trans h.tape,ai.trans h.output,by rw [ab];exact h.hs,λb hb hn=>?_,h.dom0,h.domN,h.owN,by grind,h.mu0,J,λb j y ob e hy o d=>?_,h.keep0.trans m.keeps h.dom0,h.arr0_moves m J⟩,m⟩
 ·by_cases H:j=k
  ·grind
  ·rw [Aq (by omega)] at e;obtain ⟨c,T1,q1,q2,q3,q4,q5⟩:=h.box j T x e;have M:μ j≠μ k:=λaa=>by grind
   exact BoxRep.mono ⟨c,T1,q1,q2,q3,q4,q5⟩ m rfl (O _ M) q3 q4
 ·by_cases H:j=k
  ·grind
  ·rw [Aq (by omega)] at e;obtain ⟨ents,clock,kc,vc,q1,q2,q3⟩:=h.map j K E es e;have M:μ j≠μ k:=λaa=>by grind
   exact OMapRep.mono ⟨ents,clock,kc,vc,q1,q2,q3⟩ m.dom m.keeps rfl (O _ M) q2 q3.1
 ·by_cases H:j=k
  ·subst H;rw [I] at e;cases e;exact ⟨hh,b3,b4⟩
  ·rw [Aq (by omega)] at e;refine (h.obj j x e).mono m.dom m.keeps (λ_=>rfl) (λc oc=>⟨O c (λhb=>?_),oc,λ_ d=>d⟩);grind
 ·have:=h.owlt b j o;grind
 ·by_cases Z:b=μ k
  ·subst Z;have:=h.owN _ _ b3 hb;grind
  ·exact (O b Z).trans (h.old b hb hn)
 ·by_cases H:j=k
  ·subst H;exact h.lone b j _ ob hk (by simp) o d
  ·rw [Aq (by omega)] at e;exact h.lone b j y ob e hy o d
theorem a8v (hw:WRel Γ D ow μ st w) {k:Nat}{K E:TypeId}{c:Option (PV×PV)} (hk:st[k]?=some (.mit K E c [])) (O:TypeId):(Instr.next (.pointer (some ⟨μ k,0,none⟩)) false O).run Γ.P w=.ok (.tuple #[.bool false]) w:=by
 obtain ⟨b4,b3,m,o,Z,I,J,hm,_⟩:=hw.obj k _ hk;rcases hm with ⟨rfl,_⟩ | ⟨r,clock,ents,kc,vc,rfl,hd,hr,rfl,hc,hb,M,r1,r2,r3⟩
 ·simp [Instr.next,getObj,Sem.run,J]
 ·have H:∀ x∈ents.toList,x.born<o:=by
   intro x hx;obtain ⟨i,hi⟩:=List.mem_iff_getElem?.1 hx;exact hb.1 i x (by simpa using hi)
  rcases run_next_at (P:=Γ.P) w O (μ k) r o Z I ents o J hr H hc with ⟨_,h⟩ | ⟨e,h,_⟩
  ·exact h
  ·have:=List.length_pos_of_mem h;simp at M;simp [M] at this
theorem ayb (J:WRel Γ D ow μ st w) (x:SV) (xv:Value) (b:Bool) (ty:TypeId) (v:SV) (st':List BX) (hx:SRep Γ.P D w ow μ st x xv) (h:am5 st x b=.upd true v st'):∃ u w',(Instr.next xv b ty).run Γ.P w=.ok u w'/\OpRes Γ D ow μ st w (.ok (.value u) w') v st':=by
 unfold am5 at h;split at h
 ·rename_i k;split at h
  ·rename_i s p I;simp only [Ac.upd.injEq,true_and] at h;obtain ⟨rfl,rfl⟩:=h;cases hx with
   | iref _=>
    obtain ⟨b1,b3,b4⟩:=J.obj k _ I;have aa:μ k<w.heap.size:=(J.owlt _ _ b3).1;have hg:(getObj (μ k)).run Γ.P w=.ok (.stringIter ⟨s.toArray⟩ p) w:=by simp [getObj,Sem.run,b1]
    have O:(⟨s.toArray⟩:ByteArray).size=s.length:=rfl;by_cases H:p<s.length
    ·have M:∀ o,(setObj (μ k) o).run Γ.P w=.ok () { w with heap:=w.heap.setIfInBounds (μ k) o }:=λo=>by simp [setObj,Sem.run,b1]
     obtain ⟨h1,h2⟩:=J.setIter I (w':={ w with heap:=w.heap.setIfInBounds (μ k) (.stringIter ⟨s.toArray⟩ (p+(Utf8.decode ⟨s.toArray⟩ p).2)) }) (p':=p+(Utf8.decode ⟨s.toArray⟩ p).2)
      (by simp [aa]) (λb hb=>by simp only;rw [Array.getElem?_setIfInBounds_ne (Ne.symm hb)]) (by simp) rfl rfl rfl
     refine ⟨.tuple #[.bool true,.int .i64 p,.int .i32 (Utf8.decode ⟨s.toArray⟩ p).1],_,?_,_,_,_,_,_,Or.inl rfl,by simpa [H] using h1,by simpa [H] using h2,.nx (λ_=>rfl) (λhf=>by simp [H] at hf)⟩;unfold Instr.next;simp only [Sem.run_bind,hg,Result.andThen_ok,O,if_pos H,M,Sem.run_pure];rfl
    ·have e1:st.set k (.iter s (bif decide (p<s.length) then p+(Utf8.decode ⟨s.toArray⟩ p).2 else p))=st:=by
      simp only [H,decide_false,Ah];apply List.ext_getElem?;intro j;rw [List.getElem?_set];split
      ·rename_i hj;subst hj;split
       ·exact I.symm
       ·rename_i hn;exact absurd (Bg.1 I).1 hn
      ·rfl
     rw [e1];refine ⟨.tuple #[.bool false],w,?_,_,_,_,_,_,Or.inl rfl,J,Moves.refl _ _ _ _ _,.nx (λhf=>by simp [H] at hf) (λ_=>rfl)⟩;unfold Instr.next;simp only [Sem.run_bind,hg,Result.andThen_ok,O,if_neg H,Sem.run_pure]
  ·cases h
 ·rename_i k;split at h
  ·rename_i K E c es I;simp only [Ac.upd.injEq] at h;obtain ⟨he,rfl,rfl⟩:=h;cases es with
   | cons _ _=>simp at he
   | nil=>
    cases hx with
    | mitr _=>
     refine ⟨_,w,a8v J I ty,_,_,_,_,_,Or.inl rfl,J,Moves.refl _ _ _ _ _,.tup rfl (λi s v Z hv=>?_)⟩;match i,Z,hv with
     | 0,Z,hv=>simp at Z hv;subst Z;subst hv;exact .bool
  ·cases h
 ·cases h
end
end Go.Ab
