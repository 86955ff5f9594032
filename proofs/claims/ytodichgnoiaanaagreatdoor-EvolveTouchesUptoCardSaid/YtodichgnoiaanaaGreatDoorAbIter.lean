/- A range over a string. -/
import Derived.Test.YtodichgnoiaanaaGreatDoorAbWrite
import Derived.MapKept
import Derived.Maps.RangeRun
set_option linter.unusedVariables false
set_option linter.unusedSimpArgs false
set_option linter.unnecessarySimpa false
namespace Go.Ab
open Go
section
variable {Γ:Ctx}{D:Dom}{ow:Own}{μ:Nat->Nat}{st:List BX}{w:World}
theorem aw5 (O:WRel Γ D ow μ st w) (T:TypeId) (x:SV) (xv:Value) (v:SV) (st':List BX) (z:SRep Γ.P D w ow μ st x xv) (h:ajo Γ.P T st x=.upd true v st'):∃ u w',(Instr.range T xv).run Γ.P w=.ok u w'/\OpRes Γ D ow μ st w (.ok (.value u) w') v st':=by
 have hD:∀ o,¬D w.heap.size o:=λo d=>by have:=O.dlt _ _ d;omega
 unfold ajo at h;split at h
 ·rename_i s J;simp only [Ac.upd.injEq,true_and] at h;obtain ⟨rfl,rfl⟩:=h;cases z;obtain ⟨H,I⟩:=O.newOwn (.stringIter ⟨s.toArray⟩ 0) (.iter s 0) (λm=>show IterRep _ _ _ _ _ _ _ from ⟨by grind [aah,aas],by rw [aah,aah],by grind [aah]⟩);refine ⟨.pointer (some ⟨w.heap.size,0,none⟩),w.alloc (.stringIter ⟨s.toArray⟩ 0),by simp [Instr.range,run_underlying J],_,_,_,_,_,Or.inl rfl,H,I,?_⟩;have:=SRep.iref (P:=Γ.P) (D:=D) (w:=w.alloc (.stringIter ⟨s.toArray⟩ 0)) (ow:=upd ow w.heap.size (some st.length)) (μ:=upd μ st.length w.heap.size) (st:=st++[.iter s 0]) (k:=st.length) (s:=s) (p:=0)
   (by grind)
  grind [aah]
 ·rename_i K E K' E' es J;cases M:(Nat.beq K K'&&Nat.beq E E') with
  | false=>grind
  | true=>
   rw [M] at h;simp only [Aj] at M;have:=Ae M.1;subst this;have:=Ae M.2;subst this;simp only [Af,Ac.upd.injEq,true_and] at h;obtain ⟨rfl,rfl⟩:=h;have fin:∀ o:Obj,(Instr.range T xv).run Γ.P w=.ok (.pointer (some ⟨w.heap.size,0,none⟩)) (w.alloc o)->(Moves D w ow μ st D (w.alloc o) (upd ow w.heap.size (some st.length)) (upd μ st.length w.heap.size) (st++[.mit K E none es])->ax3 Γ.P D (w.alloc o) (upd ow w.heap.size (some st.length)) (upd μ st.length w.heap.size) st.length K E none es)->
    ∃ u w',(Instr.range T xv).run Γ.P w=.ok u w'/\OpRes Γ D ow μ st w (.ok (.value u) w') (.mitr st.length) (st++[.mit K E none es]):=by
    intro o hr hm
    obtain ⟨H,I⟩:=O.newOwn o (.mit K E none es) hm
    refine ⟨_,_,hr,_,_,_,_,_,Or.inl rfl,H,I,?_⟩
    have:=SRep.mitr (P:=Γ.P) (D:=D) (w:=w.alloc o) (ow:=upd ow w.heap.size (some st.length)) (μ:=upd μ st.length w.heap.size) (st:=st++[.mit K E none es]) (k:=st.length) (K:=K) (E:=E) (c:=none) (es:=es)
     (by grind)
    grind [aah]
   cases z with
   | map hm=>
    cases hm with
    | nil=>refine fin (.mapIter none 0 #[] 0) (by simp [Instr.range,run_underlying J]) (λm=>⟨by grind [aah],by rw [aah,aah],none,0,0,#[],by grind [aah,aas],Or.inl ⟨rfl,rfl⟩,λe h=>by cases h⟩)
    | @mk r clock ents _ kc vc hh hd hs H I h3=>
     have hl:leftOf ents #[]=ents:=by simp [leftOf]
     have Z:r<w.heap.size:=O.dlt _ _ hd;refine fin (.mapIter (some r) clock #[] clock) (by simp [Instr.range,run_underlying J,getObj,Sem.run,hh]) (λm=>⟨by grind [aah],by rw [aah,aah],some r,clock,clock,#[],by grind [aah,aas],
      Or.inr ⟨r,clock,ents,kc,vc,rfl,hd,(aa6 w _ r Z).trans hh,rfl,Nat.le_refl _,h3.2,by grind,λi x z=>(H i x z).mono m.dom m.keeps,λi x z=>(I i x z).mono m.dom m.keeps,by rw [hl];exact h3.1⟩,λe h=>by cases h⟩)
 ·cases h
theorem WRel.setIter (h:WRel Γ D ow μ st w) {k p p':Nat}{s:Bo} (Z:st[k]?=some (.iter s p)) {w':World}
 (hh:w'.heap[μ k]?=some (.stringIter ⟨s.toArray⟩ p')) (M:∀ b,b≠μ k->w'.heap[b]?=w.heap[b]?) (ab:w'.heap.size=w.heap.size) (ag:w'.os=w.os) (ai:w'.tape=w.tape) (ah:w'.output=w.output):
 WRel Γ D ow μ (st.set k (.iter s p')) w'/\Moves D w ow μ st D w' ow μ (st.set k (.iter s p')):=by
 have aj:=(A5.1 Z).1
 obtain ⟨b1,b3,b4⟩:=h.obj k _ Z
 have ne:∀ {j:Nat}{y:BX},st[j]?=some y->j≠k->(st.set k (.iter s p'))[j]?=some y:=λe z=>by grind
 have H:(st.set k (.iter s p'))[k]?=some (.iter s p'):=by grind
 have ae:Keeps D w w':=Keeps.of_heap λb o d=>M b (λe=>by grind)
 have m:Moves D w ow μ st D w' ow μ (st.set k (.iter s p')):=by
  refine ⟨λ_ _ d=>d,ae,λj T x e=>⟨rfl,x,?_⟩,λj K E es e=>⟨rfl,es,?_⟩,λj b e hs=>⟨rfl,?_⟩,λj E g xs e=>?_,λj g e=>?_⟩
  ·grind
  ·grind
  ·by_cases z:j=k
   ·subst z;rw [Z] at e;cases e;exact ⟨_,H,rfl⟩
   grind
  ·by_cases z:j=k
   ·grind
   ·refine ⟨g,xs,ne e z,Nat.le_refl _,λ_=>⟨rfl,λcur hc af=>⟨rfl,af,cur,(M _ (λaa=>?_)).trans hc,rfl⟩⟩⟩;grind
  grind
 have I:∀ j,j<Γ.np->∃ b,(st.set k (.iter s p'))[j]?=some b/\b.kind=Γ.K0 j:=by
  intro j z;obtain ⟨x,hx,p1⟩:=h.par j z;by_cases ad:j=k
  ·subst ad;rw [Z] at hx;cases hx;exact ⟨_,H,p1⟩
  grind
 refine ⟨⟨λj T x e=>?_,λj K E es e=>?_,λj x e=>?_,λb j o=>?_,λb o d=>by rw [ab];exact h.dlt b o d,ag.trans h.os,ai.trans h.tape,ah.trans h.output,by rw [ab];exact h.hs,λb hb hn=>?_,h.dom0,h.domN,h.owN,by grind,h.mu0,I,λb j y ob e hy o d=>?_,h.keep0.trans m.keeps h.dom0,h.arr0_moves m I⟩,m⟩
 ·by_cases z:j=k
  ·grind
  ·rw [Ao (by omega)] at e;obtain ⟨c,T1,q1,q2,q3,q4,q5⟩:=h.box j T x e;have J:μ j≠μ k:=λaa=>by grind
   exact BoxRep.mono ⟨c,T1,q1,q2,q3,q4,q5⟩ m rfl (M _ J) q3 q4
 ·by_cases z:j=k
  ·grind
  ·rw [Ao (by omega)] at e;obtain ⟨ents,clock,kc,vc,q1,q2,q3⟩:=h.map j K E es e;have J:μ j≠μ k:=λaa=>by grind
   exact OMapRep.mono ⟨ents,clock,kc,vc,q1,q2,q3⟩ m.dom m.keeps rfl (M _ J) q2 q3.1
 ·by_cases z:j=k
  ·subst z;rw [H] at e;cases e;exact ⟨hh,b3,b4⟩
  ·rw [Ao (by omega)] at e;refine (h.obj j x e).mono m.dom m.keeps (λ_=>rfl) (λc oc=>⟨M c (λhb=>?_),oc,λ_ d=>d⟩);grind
 ·have:=h.owlt b j o;grind
 ·by_cases O:b=μ k
  ·subst O;have:=h.owN _ _ b3 hb;grind
  ·exact (M b O).trans (h.old b hb hn)
 ·by_cases z:j=k
  ·subst z;exact h.lone b j _ ob Z (by simp) o d
  ·rw [Ao (by omega)] at e;exact h.lone b j y ob e hy o d
theorem bcl (Z:WRel Γ D ow μ st w) {k:Nat}{K E:TypeId}{c:Option (PV×PV)} (M:st[k]?=some (.mit K E c [])) (ty:TypeId):(Instr.next (.pointer (some ⟨μ k,0,none⟩)) false ty).run Γ.P w=.ok (.tuple #[.bool false]) w:=by
 obtain ⟨b4,b3,m,h,c0,z,I,O,_⟩:=Z.obj k _ M;rcases O with ⟨rfl,_⟩ | ⟨r,clock,ents,kc,vc,rfl,hd,hr,rfl,hc,H,hs,r1,r2,r3⟩
 ·simp [Instr.next,getObj,Sem.run,I]
 ·have o:∀ x∈ents.toList,x.born<h:=by
   intro x hx;obtain ⟨i,J⟩:=List.mem_iff_getElem?.1 hx;exact H.1 i x (by simpa using J)
  grind [run_next_at,List.length_pos_of_mem]
theorem a0s (H:WRel Γ D ow μ st w) (x:SV) (xv:Value) (b:Bool) (ty:TypeId) (v:SV) (st':List BX) (hx:SRep Γ.P D w ow μ st x xv) (h:aoi st x b=.upd true v st'):∃ u w',(Instr.next xv b ty).run Γ.P w=.ok u w'/\OpRes Γ D ow μ st w (.ok (.value u) w') v st':=by
 unfold aoi at h;split at h
 ·rename_i k;split at h
  ·rename_i s p M;simp only [Ac.upd.injEq,true_and] at h;obtain ⟨rfl,rfl⟩:=h;cases hx with
   | iref _=>
    obtain ⟨b1,b3,b4⟩:=H.obj k _ M;have aa:μ k<w.heap.size:=(H.owlt _ _ b3).1;have hg:(getObj (μ k)).run Γ.P w=.ok (.stringIter ⟨s.toArray⟩ p) w:=by simp [getObj,Sem.run,b1]
    have J:(⟨s.toArray⟩:ByteArray).size=s.length:=rfl;by_cases z:p<s.length
    ·have I:∀ o,(setObj (μ k) o).run Γ.P w=.ok () { w with heap:=w.heap.setIfInBounds (μ k) o }:=λo=>by simp [setObj,Sem.run,b1]
     obtain ⟨h1,h2⟩:=H.setIter M (w':={ w with heap:=w.heap.setIfInBounds (μ k) (.stringIter ⟨s.toArray⟩ (p+(Utf8.decode ⟨s.toArray⟩ p).2)) }) (p':=p+(Utf8.decode ⟨s.toArray⟩ p).2)
      (by simp [aa]) (λb hb=>by grind) (by simp) rfl rfl rfl
     refine ⟨.tuple #[.bool true,.int .i64 p,.int .i32 (Utf8.decode ⟨s.toArray⟩ p).1],_,?_,_,_,_,_,_,Or.inl rfl,by simpa [z] using h1,by grind,.nx (λ_=>rfl) (λhf=>by simp [z] at hf)⟩;unfold Instr.next;simp only [Sem.run_bind,hg,Result.andThen_ok,J,if_pos z,I,Sem.run_pure];rfl
    ·have e1:st.set k (.iter s (bif decide (p<s.length) then p+(Utf8.decode ⟨s.toArray⟩ p).2 else p))=st:=by
      simp only [z,decide_false,Ah];apply List.ext_getElem?;grind
     rw [e1];refine ⟨.tuple #[.bool false],w,?_,_,_,_,_,_,Or.inl rfl,H,Moves.refl _ _ _ _ _,.nx (λhf=>by simp [z] at hf) (λ_=>rfl)⟩;unfold Instr.next;simp only [Sem.run_bind,hg,Result.andThen_ok,J,if_neg z,Sem.run_pure]
  ·cases h
 ·rename_i k;split at h
  ·rename_i K E c es M;simp only [Ac.upd.injEq] at h;obtain ⟨he,rfl,rfl⟩:=h;cases es with
   | cons _ _=>simp at he
   | nil=>
    cases hx with
    | mitr _=>
     refine ⟨_,w,bcl H M ty,_,_,_,_,_,Or.inl rfl,H,Moves.refl _ _ _ _ _,.tup rfl (λi s v O Z=>?_)⟩;match i,O,Z with
     | 0,O,Z=>simp at O Z;subst O;subst Z;exact .bool
  ·cases h
 ·cases h
end
end Go.Ab
