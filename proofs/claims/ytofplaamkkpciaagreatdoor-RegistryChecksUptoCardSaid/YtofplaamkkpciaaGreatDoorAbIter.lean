/- A range over a string. -/
import Derived.Test.YtofplaamkkpciaaGreatDoorAbWrite
import Derived.MapKept
import Derived.Maps.RangeRun
set_option linter.unusedVariables false
set_option linter.unusedSimpArgs false
set_option linter.unnecessarySimpa false
namespace Go.Ab
open Go
open Go.ChangeMaps (setBlock)
section
variable{Γ:Ctx}{D:Dom}{ow:Own}{μ:Nat->Nat}{st:List BX}{w:World}
theorem a01(J:WRel Γ D ow μ st w)(T:TypeId)(x:SV)(xv:Value)(v:SV)(st':List BX)(t:SRep Γ.P D w ow μ st x xv)(h:aku Γ.P T st x=.upd true v st'):∃u w',(Instr.range T xv).run Γ.P w=.ok u w'/\OpRes Γ D ow μ st w (.ok (.value u) w') v st':=by
 have hD:∀o,¬D w.heap.size o:=λo d=>by have:=J.dlt _ _ d;omega
 unfold aku at h;split at h
 ·rename_i s H;simp only[Ac.upd.injEq,true_and]at h;obtain⟨rfl,rfl⟩:=h;cases t;obtain⟨z,G⟩:=J.newOwn (.stringIter ⟨s.toArray⟩ 0) (.iter s 0) (λm=>show IterRep _ _ _ _ _ _ _ from⟨by grind[aaf,aaw],by rw[aaf,aaf],by grind[aaf]⟩);refine⟨.pointer (some ⟨w.heap.size,0,none⟩),w.alloc (.stringIter ⟨s.toArray⟩ 0),by simp[Instr.range,run_underlying H],_,_,_,_,_,Or.inl rfl,z,G,?_⟩;have:=SRep.iref (P:=Γ.P) (D:=D) (w:=w.alloc (.stringIter ⟨s.toArray⟩ 0)) (ow:=upd ow w.heap.size (some st.length)) (μ:=upd μ st.length w.heap.size) (st:=st++[.iter s 0]) (k:=st.length) (s:=s) (p:=0)
   (by grind)
  grind[aaf]
 ·rename_i K E Y X es H;cases I:(Nat.beq K Y&&Nat.beq E X)with
  |false=>grind
  |true=>
   rw[I]at h;simp only[Ai]at I;have:=Ag I.1;subst this;have:=Ag I.2;subst this;simp only[Ad,Ac.upd.injEq,true_and]at h;obtain⟨rfl,rfl⟩:=h;have fin:∀o:Obj,(Instr.range T xv).run Γ.P w=.ok (.pointer (some ⟨w.heap.size,0,none⟩)) (w.alloc o)->(Moves D w ow μ st D (w.alloc o) (upd ow w.heap.size (some st.length)) (upd μ st.length w.heap.size) (st++[.mit K E none es])->a7p Γ.P D (w.alloc o) (upd ow w.heap.size (some st.length)) (upd μ st.length w.heap.size) st.length K E none es)->
    ∃u w',(Instr.range T xv).run Γ.P w=.ok u w'/\OpRes Γ D ow μ st w (.ok (.value u) w') (.mitr st.length) (st++[.mit K E none es]):=by
    intro o hr O
    obtain⟨z,G⟩:=J.newOwn o (.mit K E none es) O
    refine⟨_,_,hr,_,_,_,_,_,Or.inl rfl,z,G,?_⟩
    have:=SRep.mitr (P:=Γ.P) (D:=D) (w:=w.alloc o) (ow:=upd ow w.heap.size (some st.length)) (μ:=upd μ st.length w.heap.size) (st:=st++[.mit K E none es]) (k:=st.length) (K:=K) (E:=E) (c:=none) (es:=es)
     (by grind)
    grind[aaf]
   cases t with
   |map O=>
    cases O with
    |nil=>refine fin (.mapIter none 0 #[] 0) (by simp[Instr.range,run_underlying H]) (λm=>⟨by grind[aaf],by rw[aaf,aaf],none,0,0,#[],by grind[aaf,aaw],Or.inl ⟨rfl,rfl⟩,λe h=>by cases h⟩)
    |@mk r clock ents _ kc vc W V hs z G U=>
     have Z:leftOf ents #[]=ents:=by simp[leftOf]
     have M:r<w.heap.size:=J.dlt _ _ V;refine fin (.mapIter (some r) clock #[] clock) (by simp[Instr.range,run_underlying H,getObj,Sem.run,W]) (λm=>⟨by grind[aaf],by rw[aaf,aaf],some r,clock,clock,#[],by grind[aaf,aaw],
      Or.inr ⟨r,clock,ents,kc,vc,rfl,V,(abc w _ r M).trans W,rfl,Nat.le_refl _,U.2,by grind,λi x t=>(z i x t).mono m.dom m.keeps,λi x t=>(G i x t).mono m.dom m.keeps,by rw[Z];exact U.1⟩,λe h=>by cases h⟩)
 ·cases h
theorem WRel.setIter(I:WRel Γ D ow μ st w){k p p':Nat}{s:Bn}(H:st[k]?=some (.iter s p)){w':World}
 (O:w'.heap[μ k]?=some (.stringIter ⟨s.toArray⟩ p')) (U:∀b,b≠μ k->w'.heap[b]?=w.heap[b]?) (t:w'.heap.size=w.heap.size) (m:w'.os=w.os) (z:w'.tape=w.tape) (o:w'.output=w.output):
 WRel Γ D ow μ (st.set k (.iter s p')) w'/\Moves D w ow μ st D w' ow μ (st.set k (.iter s p')):=by
 obtain⟨V,G,J⟩:=I.obj k _ H
 exact I.setB (.iter s p') H ⟨rfl,rfl,rfl⟩ (Or.inr (by simp)) (λb M=>U b λe=>M (e▸G)) t m z o λ_=>⟨O,G,J⟩
theorem bii(O:WRel Γ D ow μ st w){k:Nat}{K E:TypeId}{c:Option (PV×PV)}(J:st[k]?=some (.mit K E c []))(V:TypeId):(Instr.next (.pointer (some ⟨μ k,0,none⟩)) false V).run Γ.P w=.ok (.tuple #[.bool false]) w:=by
 obtain⟨X,W,m,o,Y,z,H,M,_⟩:=O.obj k _ J;rcases M with⟨rfl,_⟩|⟨r,clock,ents,kc,vc,rfl,hd,hr,rfl,Z,G,hs,r1,r2,r3⟩
 ·simp[Instr.next,getObj,Sem.run,H]
 ·have t:∀x∈ents.toList,x.born<o:=by
   intro x U;obtain⟨i,I⟩:=List.mem_iff_getElem?.1 U;exact G.1 i x (by simpa using I)
  grind[run_next_at,List.length_pos_of_mem]
theorem bij(hw:WRel Γ D ow μ st w){k:Nat}{K E:TypeId}{c:Option (PV×PV)}{x:PV×PV}(hk:st[k]?=some (.mit K E c [x])):
 ∃(u:Value)(I:World),(∀ty,(Instr.next (.pointer (some ⟨μ k,0,none⟩)) false ty).run Γ.P w=.ok u I)/\WRel Γ D ow μ (st.set k (.mit K E (some x) [])) I/\Moves D w ow μ st D I ow μ (st.set k (.mit K E (some x) []))/\
  SRep Γ.P D I ow μ (st.set k (.mit K E (some x) [])) (.tup [.bool true,ofPV Γ.P K x.1,ofPV Γ.P E x.2]) u:=by
 obtain⟨b4,b3,m,t,c0,z,hh,hm,_⟩:=hw.obj k _ hk
 rcases hm with⟨_,h⟩|⟨r,clock,ents,kc,vc,rfl,hd,hr,rfl,hc,W,H,r1,r2,r3⟩
 ·cases h
 ·have ad:∀x∈ents.toList,x.born<t:=by
   intro x hx;obtain⟨i,hi⟩:=List.mem_iff_getElem?.1 hx;exact W.1 i x (by simpa using hi)
  have af:=λty=>run_next_at (P:=Γ.P) w ty (μ k) r t c0 z ents t hh hr ad hc;rcases af 0 with⟨h,_⟩|⟨e,Z,I,ag,hq⟩
  ·rw[h]at H;cases H
  ·obtain⟨i,hi⟩:=List.mem_iff_getElem?.1 Z;have U:(leftOf ents z)[i]?=some e:=by simpa using hi
   have al:i=0:=by have:=(Array.getElem?_eq_some_iff.1 U).1;simp at H;omega
   subst al;obtain⟨ek,ev⟩:=r3 0 e U;have ao:μ k<w.heap.size:=(hw.owlt _ _ b3).1;have O:I.heap=w.heap/\I.os=w.os/\I.tape=w.tape/\I.output=w.output:=by rcases ag with rfl|rfl<;>exact⟨rfl,rfl,rfl,rfl⟩
   have ae:r≠μ k:=λe=>b4 0 (e▸hd);have ab:(setBlock I (μ k) (.mapIter (some r) t (z.push e.born) t)).heap[μ k]?=some (.mapIter (some r) t (z.push e.born) t):=by grind[setBlock]
   have G:∀b,b≠μ k->(setBlock I (μ k) (.mapIter (some r) t (z.push e.born) t)).heap[b]?=w.heap[b]?:=λb W=>by show(I.heap.setIfInBounds (μ k) _)[b]?=_;grind
   have Y:Keeps D w (setBlock I (μ k) (.mapIter (some r) t (z.push e.born) t)):=Keeps.of_heap λb o d=>G b (λe=>b4 o (e▸d));have q1:=(r1 0 x rfl).mono (λ_ _ d=>d) Y;have q2:=(r2 0 x rfl).mono (λ_ _ d=>d) Y;have J:∀(j:Nat)(f:MapEntry),(leftOf ents (z.push e.born))[j]?≠some f:=by
    intro j f V;have hf:=Array.mem_of_getElem? V;simp only[leftOf,Array.mem_filter,Bool.not_eq_true',Array.contains_push,Bool.or_eq_false_iff]at hf;have ai:f∈leftOf ents z:=by simp only[leftOf,Array.mem_filter,Bool.not_eq_true'];grind
    obtain⟨n,hn⟩:=Array.mem_iff_getElem?.1 ai;have an:n=0:=by have:=(Array.getElem?_eq_some_iff.1 hn).1;simp at H;omega
    subst an;rw[U]at hn;cases hn;grind
   have aa:a7p Γ.P D (setBlock I (μ k) (.mapIter (some r) t (z.push e.born) t)) ow μ k K E (some x) []:=by
    refine⟨b4,b3,some r,t,t,z.push e.born,ab,Or.inr ⟨r,t,ents,kc,vc,rfl,hd,(G r ae).trans hr,rfl,Nat.le_refl _,W,?_,λj y V=>by simp at V,λj y V=>by simp at V,λj f V=>absurd V (J j f)⟩,λe0 ah=>?_⟩
    ·by_cases h0:(leftOf ents (z.push e.born)).size=0
     ·exact h0
     ·exact absurd (Array.getElem?_eq_getElem (by omega)) (J 0 _)
    ·cases ah;refine⟨r,ents,e,kc 0,vc 0,rfl,hd,(G r ae).trans hr,by simp,?_,q1,q2,ek,ev⟩;have am:e∈ents.toList:=by
      grind[List.mem_of_getElem?,leftOf,Array.toList_filter]
     obtain⟨a,ha⟩:=List.mem_iff_getElem?.1 am;cases hf:ents.find? (λx=>x.born==e.born)with
     |none=>grind
     |some f=>have ak:=Array.mem_of_find?_eq_some hf;have aj:=Array.find?_some hf;obtain⟨b,X⟩:=Array.mem_iff_getElem?.1 ak;have:a=b:=W.2 a b e f (by simpa using ha) X (by simpa using(beq_iff_eq.1 aj).symm);subst this;rw[<-X];simpa using ha
   obtain⟨u1,u2⟩:=hw.setB (.mit K E (some x) []) hk ⟨rfl,rfl,rfl⟩ (Or.inr (by simp)) (λb W=>G b λe=>W (e▸b3)) (by simp[setBlock,O.1]) O.2.1 O.2.2.1 O.2.2.2 λ_=>aa;refine⟨.tuple #[.bool true,e.key,e.val],_,λty=>(show(Instr.next (.pointer (some ⟨μ k,0,none⟩)) false ty).run Γ.P w=(Instr.next (.pointer (some ⟨μ k,0,none⟩)) false 0).run Γ.P w from rfl).trans hq,u1,u2,.tup rfl λj s v H M=>?_⟩;match j,H,M with
   |0,H,M=>simp at H M;subst H;subst M;exact .bool
   |1,H,M=>simp at H M;subst H;subst M;rw[ek];exact q1.ofPV
   |2,H,M=>simp at H M;subst H;subst M;rw[ev];exact q2.ofPV
theorem a6f(m:WRel Γ D ow μ st w)(x:SV)(xv:Value)(b:Bool)(W:TypeId)(v:SV)(st':List BX)(V:SRep Γ.P D w ow μ st x xv)(h:aqt Γ.P st x b=.upd true v st'):∃u w',(Instr.next xv b W).run Γ.P w=.ok u w'/\OpRes Γ D ow μ st w (.ok (.value u) w') v st':=by
 unfold aqt at h;split at h
 ·rename_i k;split at h
  ·rename_i s p z;simp only[Ac.upd.injEq,true_and]at h;obtain⟨rfl,rfl⟩:=h;cases V with
   |iref _=>
    obtain⟨X,b3,b4⟩:=m.obj k _ z;have U:μ k<w.heap.size:=(m.owlt _ _ b3).1;have Z:(getObj (μ k)).run Γ.P w=.ok (.stringIter ⟨s.toArray⟩ p) w:=by simp[getObj,Sem.run,X]
    have H:(⟨s.toArray⟩:ByteArray).size=s.length:=rfl;by_cases t:p<s.length
    ·have G:∀o,(setObj (μ k) o).run Γ.P w=.ok () { w with heap:=w.heap.setIfInBounds (μ k) o }:=λo=>by simp[setObj,Sem.run,X]
     obtain⟨M,Y⟩:=m.setIter z (w':={ w with heap:=w.heap.setIfInBounds (μ k) (.stringIter ⟨s.toArray⟩ (p+(Utf8.decode ⟨s.toArray⟩ p).2)) }) (p':=p+(Utf8.decode ⟨s.toArray⟩ p).2)
      (by simp[U]) (λb hb=>by grind) (by simp) rfl rfl rfl
     refine⟨.tuple #[.bool true,.int .i64 p,.int .i32 (Utf8.decode ⟨s.toArray⟩ p).1],_,?_,_,_,_,_,_,Or.inl rfl,by simpa[t]using M,by grind,.nx (λ_=>rfl) (λO=>by simp[t]at O)⟩;unfold Instr.next;simp only[Sem.run_bind,Z,Result.andThen_ok,H,if_pos t,G,Sem.run_pure];rfl
    ·have e1:st.set k (.iter s (bif decide (p<s.length)then p+(Utf8.decode ⟨s.toArray⟩ p).2 else p))=st:=by
      simp only[t,decide_false,Af];apply List.ext_getElem?;grind
     rw[e1];refine⟨.tuple #[.bool false],w,?_,_,_,_,_,_,Or.inl rfl,m,Moves.refl _ _ _ _ _,.nx (λO=>by simp[t]at O) (λ_=>rfl)⟩;unfold Instr.next;simp only[Sem.run_bind,Z,Result.andThen_ok,H,if_neg t,Sem.run_pure]
  ·cases h
 ·rename_i k;split at h
  ·rename_i K E c es z;split at h
   ·simp only[Ac.upd.injEq,true_and]at h;obtain⟨rfl,rfl⟩:=h;cases V with
    |mitr _=>
     refine⟨_,w,bii m z W,_,_,_,_,_,Or.inl rfl,m,Moves.refl _ _ _ _ _,.tup rfl (λi s v I J=>?_)⟩;match i,I,J with
     |0,I,J=>simp at I J;subst I;subst J;exact .bool
   ·simp only[Ac.upd.injEq,true_and]at h;obtain⟨rfl,rfl⟩:=h;cases V with
    |mitr _=>obtain⟨u,w1,M,Y,h3,h4⟩:=bij m z;exact⟨u,w1,M W,_,_,_,_,_,Or.inl rfl,Y,h3,h4⟩
   ·cases h
  ·cases h
 ·cases h
end
end Go.Ab
