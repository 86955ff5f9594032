/- A range over a string. -/
import Derived.Test.YtcpkdafleaddlaaGreatDoorAbWrite
import Derived.MapKept
set_option linter.unusedVariables false
set_option linter.unusedSimpArgs false
set_option linter.unnecessarySimpa false
namespace Go.Ab
open Go
section
variable {Γ:Ctx}{D:Dom}{ow:Own}{μ:Nat->Nat}{st:List BX}{w:World}
theorem axi (z:WRel Γ D ow μ st w) (T:TypeId) (x:SV) (H:Value) (v:SV) (st':List BX) (V:SRep Γ.P D w ow μ st x H) (h:ajs Γ.P T st x=.upd true v st'):∃ u w',(Instr.range T H).run Γ.P w=.ok u w'/\OpRes Γ D ow μ st w (.ok (.value u) w') v st':=by
 have W:∀ o,¬D w.heap.size o:=λo d=>by have:=z.dlt _ _ d;omega
 unfold ajs at h;split at h
 ·rename_i s U;simp only [Ac.upd.injEq,true_and] at h;obtain ⟨rfl,rfl⟩:=h;cases V;obtain ⟨M,O⟩:=z.newOwn (.stringIter ⟨s.toArray⟩ 0) (.iter s 0) (λm=>show IterRep _ _ _ _ _ _ _ from ⟨by grind [aah,aax],by rw [aah,aah],by grind [aah]⟩);refine ⟨.pointer (some ⟨w.heap.size,0,none⟩),w.alloc (.stringIter ⟨s.toArray⟩ 0),by simp [Instr.range,run_underlying U],_,_,_,_,_,Or.inl rfl,M,O,?_⟩;have:=SRep.iref (P:=Γ.P) (D:=D) (w:=w.alloc (.stringIter ⟨s.toArray⟩ 0)) (ow:=upd ow w.heap.size (some st.length)) (μ:=upd μ st.length w.heap.size) (st:=st++[.iter s 0]) (k:=st.length) (s:=s) (p:=0)
   (by grind)
  grind [aah]
 ·cases h
theorem WRel.setIter (z:WRel Γ D ow μ st w) {k p p':Nat}{s:Bq} (X:st[k]?=some (.iter s p)) {w':World}
 (hh:w'.heap[μ k]?=some (.stringIter ⟨s.toArray⟩ p')) (V:∀ b,b≠μ k->w'.heap[b]?=w.heap[b]?) (Z:w'.heap.size=w.heap.size) (af:w'.os=w.os) (ah:w'.tape=w.tape) (ag:w'.output=w.output):
 WRel Γ D ow μ (st.set k (.iter s p')) w'/\Moves D w ow μ st D w' ow μ (st.set k (.iter s p')):=by
 have ai:=(A4.1 X).1
 obtain ⟨b1,b3,b4⟩:=z.obj k _ X
 have ne:∀ {j:Nat}{y:BX},st[j]?=some y->j≠k->(st.set k (.iter s p'))[j]?=some y:=λe H=>by grind
 have M:(st.set k (.iter s p'))[k]?=some (.iter s p'):=by grind
 have ad:Keeps D w w':=Keeps.of_heap λb o d=>V b (λe=>by grind)
 have m:Moves D w ow μ st D w' ow μ (st.set k (.iter s p')):=by
  refine ⟨λ_ _ d=>d,ad,λj T x e=>⟨rfl,x,?_⟩,λj K E es e=>⟨rfl,es,?_⟩,λj b e hs=>⟨rfl,?_⟩,λj E g xs e=>?_,λj g e=>?_⟩
  ·grind
  ·grind
  ·by_cases H:j=k
   ·subst H;rw [X] at e;cases e;exact ⟨_,M,rfl⟩
   grind
  ·by_cases H:j=k
   ·grind
   ·refine ⟨g,xs,ne e H,Nat.le_refl _,λ_=>⟨rfl,λaa hc ae=>⟨rfl,ae,aa,(V _ (λY=>?_)).trans hc,rfl⟩⟩⟩;grind
  grind
 have O:∀ j,j<Γ.np->∃ b,(st.set k (.iter s p'))[j]?=some b/\b.kind=Γ.K0 j:=by
  intro j H;obtain ⟨x,hx,p1⟩:=z.par j H;by_cases ab:j=k
  ·subst ab;rw [X] at hx;cases hx;exact ⟨_,M,p1⟩
  grind
 refine ⟨⟨λj T x e=>?_,λj K E es e=>?_,λj x e=>?_,λb j o=>?_,λb o d=>by rw [Z];exact z.dlt b o d,af.trans z.os,ah.trans z.tape,ag.trans z.output,by rw [Z];exact z.hs,λb hb hn=>?_,z.dom0,z.domN,z.owN,by grind,z.mu0,O,λb j y ob e hy o d=>?_,z.keep0.trans m.keeps z.dom0,z.arr0_moves m O⟩,m⟩
 ·by_cases H:j=k
  ·grind
  ·rw [Ap (by omega)] at e;obtain ⟨c,T1,q1,q2,q3,q4,q5⟩:=z.box j T x e;have U:μ j≠μ k:=λY=>by grind
   exact BoxRep.mono ⟨c,T1,q1,q2,q3,q4,q5⟩ m rfl (V _ U) q3 q4
 ·by_cases H:j=k
  ·grind
  ·rw [Ap (by omega)] at e;obtain ⟨ents,clock,kc,vc,q1,q2,q3⟩:=z.map j K E es e;have U:μ j≠μ k:=λY=>by grind
   exact OMapRep.mono ⟨ents,clock,kc,vc,q1,q2,q3⟩ m.dom m.keeps rfl (V _ U) q2 q3.1
 ·by_cases H:j=k
  ·subst H;rw [M] at e;cases e;exact ⟨hh,b3,b4⟩
  ·rw [Ap (by omega)] at e;refine (z.obj j x e).mono m.dom m.keeps (λ_=>rfl) (λc oc=>⟨V c (λhb=>?_),oc,λ_ d=>d⟩);grind
 ·have:=z.owlt b j o;grind
 ·by_cases W:b=μ k
  ·subst W;have:=z.owN _ _ b3 hb;grind
  ·exact (V b W).trans (z.old b hb hn)
 ·by_cases H:j=k
  ·subst H;exact z.lone b j _ ob X (by simp) o d
  ·rw [Ap (by omega)] at e;exact z.lone b j y ob e hy o d
theorem a08 (H:WRel Γ D ow μ st w) (x:SV) (X:Value) (b:Bool) (ty:TypeId) (v:SV) (st':List BX) (hx:SRep Γ.P D w ow μ st x X) (h:aol st x b=.upd true v st'):∃ u w',(Instr.next X b ty).run Γ.P w=.ok u w'/\OpRes Γ D ow μ st w (.ok (.value u) w') v st':=by
 unfold aol at h;split at h
 ·rename_i k;split at h
  ·rename_i s p W;simp only [Ac.upd.injEq,true_and] at h;obtain ⟨rfl,rfl⟩:=h;cases hx with
   | iref _=>
    obtain ⟨U,Y,b4⟩:=H.obj k _ W;have O:μ k<w.heap.size:=(H.owlt _ _ Y).1;have V:(getObj (μ k)).run Γ.P w=.ok (.stringIter ⟨s.toArray⟩ p) w:=by simp [getObj,Sem.run,U]
    have z:(⟨s.toArray⟩:ByteArray).size=s.length:=rfl;by_cases d:p<s.length
    ·have m:∀ o,(setObj (μ k) o).run Γ.P w=.ok () { w with heap:=w.heap.setIfInBounds (μ k) o }:=λo=>by simp [setObj,Sem.run,U]
     obtain ⟨h1,h2⟩:=H.setIter W (w':={ w with heap:=w.heap.setIfInBounds (μ k) (.stringIter ⟨s.toArray⟩ (p+(Utf8.decode ⟨s.toArray⟩ p).2)) }) (p':=p+(Utf8.decode ⟨s.toArray⟩ p).2)
      (by simp [O]) (λb hb=>by grind) (by simp) rfl rfl rfl
     refine ⟨.tuple #[.bool true,.int .i64 p,.int .i32 (Utf8.decode ⟨s.toArray⟩ p).1],_,?_,_,_,_,_,_,Or.inl rfl,by simpa [d] using h1,by grind,.nx (λ_=>rfl) (λM=>by simp [d] at M)⟩;unfold Instr.next;simp only [Sem.run_bind,V,Result.andThen_ok,z,if_pos d,m,Sem.run_pure];rfl
    ·have Z:st.set k (.iter s (bif decide (p<s.length) then p+(Utf8.decode ⟨s.toArray⟩ p).2 else p))=st:=by
      simp only [d,decide_false,Ae];apply List.ext_getElem?;grind
     rw [Z];refine ⟨.tuple #[.bool false],w,?_,_,_,_,_,_,Or.inl rfl,H,Moves.refl _ _ _ _ _,.nx (λM=>by simp [d] at M) (λ_=>rfl)⟩;unfold Instr.next;simp only [Sem.run_bind,V,Result.andThen_ok,z,if_neg d,Sem.run_pure]
  ·cases h
 ·cases h
end
end Go.Ab
