/- Operations that write. -/
import Derived.Test.YtodichgnoiaanaaGreatDoorAbMap
set_option linter.unusedVariables false
set_option linter.unusedSimpArgs false
set_option linter.unnecessarySimpa false
namespace Go.Ab
open Go
section
variable {Γ:Ctx}{D:Dom}{ow:Own}{μ:Nat->Nat}{st:List BX}{w:World}
theorem bbg (z:WRel Γ D ow μ st w) (T:TypeId) (s:SV) (h:List Value) (J:h.length=Γ.P.cellsOf T) (O:SRep Γ.P D w ow μ st s (pack Γ.P T h)) (r:Result Next)
 (M:r=.ok (.value (.pointer (some ⟨w.heap.size,0,none⟩))) (w.alloc (.cells h.toArray T))):OpRes Γ D ow μ st w r (.ref st.length [] T) (st++[.box T s]):=by
 have Z:∀ o,¬D w.heap.size o:=λo d=>by have:=z.dlt _ _ d;omega
 obtain ⟨H,I⟩:=z.newOwn (.cells h.toArray T) (.box T s) (λm=>
  ⟨h,T,by grind [aah,aas],J,by rw [aah,aah],by grind [aah],O.mono m⟩)
 refine ⟨_,_,_,_,_,Or.inl M,H,I,?_⟩
 have:=SRep.ref (P:=Γ.P) (D:=D) (w:=w.alloc (.cells h.toArray T)) (ow:=upd ow w.heap.size (some st.length)) (μ:=upd μ st.length w.heap.size) (st:=st++[.box T s]) (k:=st.length) (path:=[]) (T:=T) (TB:=T) (v:=s) (off:=0)
  (by grind) rfl
 grind [aah]
theorem al8 {P:Program}{T:TypeId} (h:avz P T=true):∃ i,P.info? T=some i/\i.zero=some (.agg #[.pointer none,.slice none 0 0]):=by
 unfold avz at h;split at h
 ·rename_i cs o;cases H:P.info? T with
  | none=>grind
  | some i=>
   rw [H] at o;refine ⟨i,rfl,?_⟩;simp only [Aa] at o;rw [o];split at h
   ·rename_i z;have:cs=#[.pointer none,.slice none 0 0]:=by
     grind
    rw [this]
   ·cases h
 ·cases h
theorem avq (O:WRel Γ D ow μ st w) (T:TypeId) {v:SV}{st':List BX} (h:ahm Γ.P T st=.upd true v st'):∃ u w',(Instr.alloc T true (.tuple #[])).run Γ.P w=.ok u w'/\
 OpRes Γ D ow μ st w (.ok (.value u) w') v st':=by
 unfold ahm at h
 cases H:ai6 Γ.P T with
 | true=>
  rw [H] at h
  simp only [Af,Ac.upd.injEq,true_and] at h
  obtain ⟨rfl,rfl⟩:=h
  simp only [ai6,Aj] at H
  obtain ⟨i,J,I⟩:=al8 H.2
  have hD:∀ o,¬D w.heap.size o:=λo d=>by have:=O.dlt _ _ d;omega
  obtain ⟨h1,h2⟩:=O.newOwn (.cells #[.pointer none,.slice none 0 0] T) (.bld T []) (λm=>show BldRep _ _ _ _ _ _ _ _ from
   ⟨.pointer none,.slice none 0 0,by grind [aah,aas],Or.inl rfl,by rw [aah,aah],by grind [aah],Or.inl ⟨rfl,rfl⟩⟩)
  refine ⟨.pointer (some ⟨w.heap.size,0,none⟩),w.alloc (.cells #[.pointer none,.slice none 0 0] T),by simp [Instr.alloc,zeroValue,typeInfo,J,I,newVar,newRow,Value.cells],_,_,_,_,_,Or.inl rfl,h1,h2,?_⟩
  have:=SRep.bref (P:=Γ.P) (D:=D) (w:=w.alloc (.cells #[.pointer none,.slice none 0 0] T)) (ow:=upd ow w.heap.size (some st.length)) (μ:=upd μ st.length w.heap.size) (st:=st++[.bld T []]) (k:=st.length) (T:=T) (TB:=T) (bs:=[])
   (by grind)
  grind [aah]
 | false=>
  rw [H] at h
  simp only [Ah] at h
  cases I:ab3 Γ.P T with
  | false=>grind
  | true=>
   rw [I] at h
   simp only [Af,Ac.upd.injEq,true_and] at h
   obtain ⟨rfl,rfl⟩:=h
   obtain ⟨i,z,J,M,ab,Z,ad,ae,aa⟩:=abl (Γ:=Γ) (D:=D) (ow:=ow) (μ:=μ) (st:=st) (w:=w) I
   refine ⟨_,_,?_,bbg O T _ z.cells.toList (by simpa using Z) (by grind) _ rfl⟩
   simp [Instr.alloc,zeroValue,typeInfo,J,M,newVar,newRow]
theorem a2f (H:WRel Γ D ow μ st w) (T:TypeId) (s:SV) (v:Value) (z:SRep Γ.P D w ow μ st s v) (o:afd Γ.P T s=true):∃ u w',(Instr.box T v).run Γ.P w=.ok u w'/\
 OpRes Γ D ow μ st w (.ok (.value u) w') (.ref st.length [] T) (st++[.box T s]):=by
 obtain ⟨h,I,J⟩:=aep z o
 refine ⟨_,_,?_,bbg H T s v.cells.toList h (by grind) _ rfl⟩
 simp [Instr.box,newVar,newRow]
theorem ap9:∀ (n:Nat) (T:TypeId) (s:SV) (v:Value),SRep Γ.P D w ow μ st s v->amb Γ.P n T s=true->v=.agg #[.pointer none,.slice none 0 0]:=by
 intro n;induction n with
 | zero=>intro T s v _ h;simp [amb] at h
 | succ n ih=>
  intro T s v hs h;unfold amb at h;split at h
  ·rename_i z T' fs hT;simp only [Aj] at h;obtain ⟨h0,h⟩:=h;have:=Ae h0;subst this;cases hs with
   | @agg _ aa _ cs O hl ho hv hp=>
    rw [abd hT] at O;cases O;split at h
    ·rename_i f x o;simp only [Aj] at h;obtain ⟨⟨⟨H,I⟩,J⟩,M⟩:=h;have H:=Ae H;have I:=Ae I;have hf:z[0]?=some f:=by
      have:z.toList[0]?=some f:=by rw [o];rfl
      simpa using this
     have Z:=hp 0 x f rfl hf;rw [H,Ap,I,<-hl,List.take_length] at Z;have:=ih f.type x _ Z M;simp only [pack,J,A9,Value.agg.injEq] at this;rw [this]
    ·rename_i f g o;simp only [Aj,Bool.not_eq_true'] at h;obtain ⟨⟨⟨⟨⟨⟨H,I⟩,J⟩,M⟩,h5⟩,h6⟩,h7⟩:=h;have J:=Ae J;have M:=Ae M;have h5:=Ae h5;have h6:=Ae h6;have h7:=Ae h7;have hf:z[0]?=some f:=by
      have:z.toList[0]?=some f:=by rw [o];rfl
      simpa using this
     have hg:z[1]?=some g:=by
      have:z.toList[1]?=some g:=by rw [o];rfl
      simpa using this
     have Z:=hp 0 _ f rfl hf;have hy:=hp 1 _ g rfl hg;rw [h7] at hl;match cs,hl with
     | [a,b],_=>simp only [J,h5,Ap,List.take,pack,H,A8,Bb,List.headD] at Z;simp only [M,h6,List.drop,List.take,pack,I,A8,Bb,List.headD] at hy;cases Z;cases hy;rfl
    ·cases h
  ·cases h
theorem av1 (H:WRel Γ D ow μ st w) (T:TypeId) (s:SV) (xv:Value) (O:SRep Γ.P D w ow μ st s xv) {v:SV}{st':List BX} (h:ata Γ.P T s st=.upd true v st'):∃ u w',(Instr.box T xv).run Γ.P w=.ok u w'/\OpRes Γ D ow μ st w (.ok (.value u) w') v st':=by
 unfold ata at h;cases z:(ai6 Γ.P T&&amb Γ.P 3 T s) with
 | true=>
  rw [z] at h;simp only [Af,Ac.upd.injEq,true_and] at h;obtain ⟨rfl,rfl⟩:=h;simp only [Aj] at z;have Z:=ap9 3 T s xv O z.2;subst Z;have hD:∀ o,¬D w.heap.size o:=λo d=>by have:=H.dlt _ _ d;omega
  obtain ⟨I,J⟩:=H.newOwn (.cells #[.pointer none,.slice none 0 0] T) (.bld T []) (λm=>show BldRep _ _ _ _ _ _ _ _ from
   ⟨.pointer none,.slice none 0 0,by grind [aah,aas],Or.inl rfl,by rw [aah,aah],by grind [aah],Or.inl ⟨rfl,rfl⟩⟩)
  refine ⟨.pointer (some ⟨w.heap.size,0,none⟩),w.alloc (.cells #[.pointer none,.slice none 0 0] T),by simp [Instr.box,newVar,newRow,Value.cells],_,_,_,_,_,Or.inl rfl,I,J,?_⟩;have:=SRep.bref (P:=Γ.P) (D:=D) (w:=w.alloc (.cells #[.pointer none,.slice none 0 0] T)) (ow:=upd ow w.heap.size (some st.length)) (μ:=upd μ st.length w.heap.size) (st:=st++[.bld T []]) (k:=st.length) (T:=T) (TB:=T) (bs:=[])
   (by grind)
  grind [aah]
 | false=>
  rw [z] at h;simp only [Ah] at h;cases M:afd Γ.P T s with
  | false=>grind
  | true=>rw [M] at h;simp only [Af,Ac.upd.injEq,true_and] at h;obtain ⟨rfl,rfl⟩:=h;grind [a2f]
theorem WRel.setBox (z:WRel Γ D ow μ st w) {k:Nat}{TB:TypeId}{s M:SV} (hk:st[k]?=some (.box TB s)) {w':World}{h:List Value}{T':TypeId}
 (hh:w'.heap[μ k]?=some (.cells h.toArray T' (0,0))) (hl:h.length=Γ.P.cellsOf TB) (Z:∀ b,b≠μ k->w'.heap[b]?=w.heap[b]?) (ad:w'.heap.size=w.heap.size)
 (ah:w'.os=w.os) (aj:w'.tape=w.tape) (ai:w'.output=w.output) (hs:SRep Γ.P D w ow μ st M (pack Γ.P TB h)):
 WRel Γ D ow μ (st.set k (.box TB M)) w'/\Moves D w ow μ st D w' ow μ (st.set k (.box TB M)):=by
 have ak:=(A5.1 hk).1
 obtain ⟨c0,T0,b1,b2,b3,b4,b5⟩:=z.box k TB s hk
 have ne:∀ {j:Nat}{y:BX},st[j]?=some y->j≠k->(st.set k (.box TB M))[j]?=some y:=λe H=>by grind
 have I:(st.set k (.box TB M))[k]?=some (.box TB M):=by grind
 have af:Keeps D w w':=Keeps.of_heap λb o d=>Z b (λe=>by grind)
 have m:Moves D w ow μ st D w' ow μ (st.set k (.box TB M)):=by
  refine ⟨λ_ _ d=>d,af,λj T x e=>⟨rfl,?_⟩,λj K E es e=>⟨rfl,?_⟩,λj b e hs=>⟨rfl,b,?_,rfl⟩,λj E g xs e=>?_,λj g e=>?_⟩
  ·grind
  ·grind
  ·by_cases H:j=k
   ·subst H;rw [hk] at e;cases e;exact absurd rfl hs
   ·exact ne e H
  ·by_cases H:j=k
   ·grind
   ·refine ⟨g,xs,ne e H,Nat.le_refl _,λ_=>⟨rfl,λcur hc ag=>⟨rfl,ag,cur,(Z _ (λab=>?_)).trans hc,rfl⟩⟩⟩;grind
  grind
 have J:∀ j,j<Γ.np->∃ b,(st.set k (.box TB M))[j]?=some b/\b.kind=Γ.K0 j:=by
  intro j H;obtain ⟨x,hx,p1⟩:=z.par j H;by_cases ae:j=k
  ·subst ae;rw [hk] at hx;cases hx;exact ⟨_,I,p1⟩
  grind
 refine ⟨⟨λj T x e=>?_,λj K E es e=>?_,λj x e=>?_,λb j o=>?_,λb o d=>by rw [ad];exact z.dlt b o d,ah.trans z.os,aj.trans z.tape,ai.trans z.output,by rw [ad];exact z.hs,λb hb hn=>?_,z.dom0,z.domN,z.owN,by grind,z.mu0,J,λb j y ob e hy o d=>?_,z.keep0.trans m.keeps z.dom0,z.arr0_moves m J⟩,m⟩
 ·by_cases H:j=k
  ·subst H;rw [I] at e;cases e;exact ⟨h,T',hh,hl,b3,b4,hs.mono m⟩
  ·rw [Ao (by omega)] at e;obtain ⟨c,T1,q1,q2,q3,q4,q5⟩:=z.box j T x e;have O:μ j≠μ k:=λab=>by grind
   exact BoxRep.mono ⟨c,T1,q1,q2,q3,q4,q5⟩ m rfl (Z _ O) q3 q4
 ·by_cases H:j=k
  ·grind
  ·rw [Ao (by omega)] at e;obtain ⟨ents,clock,kc,vc,q1,q2,q3⟩:=z.map j K E es e;have O:μ j≠μ k:=λab=>by grind
   exact OMapRep.mono ⟨ents,clock,kc,vc,q1,q2,q3⟩ m.dom m.keeps rfl (Z _ O) q2 q3.1
 ·by_cases H:j=k
  ·subst H;rw [I] at e;cases e;trivial
  ·rw [Ao (by omega)] at e;refine (z.obj j x e).mono m.dom m.keeps (λ_=>rfl) (λc oc=>⟨Z c (λhb=>?_),oc,λ_ d=>d⟩);grind
 ·have:=z.owlt b j o;grind
 ·by_cases aa:b=μ k
  ·subst aa;have:=z.owN _ _ b3 hb;grind
  ·exact (Z b aa).trans (z.old b hb hn)
 ·by_cases H:j=k
  ·subst H;exact z.lone b j _ ob hk (by simp) o d
  ·rw [Ao (by omega)] at e;exact z.lone b j y ob e hy o d
theorem WRel.setArr (h:WRel Γ D ow μ st w) {k g:Nat}{z:TypeId}{xs xs':List PV} (hk:st[k]?=some (.arr z g xs)) {w':World}{cur cur':Array Value} (ak:w.heap[μ k]?=some (.cells cur z (0,0))) (b3:ow (μ k)=some k) (b4:∀ o,¬D (μ k) o)
 (hh:w'.heap[μ k]?=some (.cells cur' z (0,0))) (am:cur'.size=cur.size) (hl:xs'.length=xs.length) (Z:∀ b,b≠μ k->w'.heap[b]?=w.heap[b]?) (ad:w'.heap.size=w.heap.size)
 (ag:w'.os=w.os) (ai:w'.tape=w.tape) (ah:w'.output=w.output) (hs:xs'.length*Γ.P.cellsOf z<=cur'.size/\∀ (i:Nat) (x:PV),xs'[i]?=some x->Rep Γ.P D w z x ((cur'.toList.drop (i*Γ.P.cellsOf z)).take (Γ.P.cellsOf z))):
 WRel Γ D ow μ (st.set k (.arr z g xs')) w'/\Moves D w ow μ st D w' ow μ (st.set k (.arr z g xs')):=by
 have an:=(A5.1 hk).1
 have ne:∀ {j:Nat}{y:BX},st[j]?=some y->j≠k->(st.set k (.arr z g xs'))[j]?=some y:=λe H=>by grind
 have I:(st.set k (.arr z g xs'))[k]?=some (.arr z g xs'):=by grind
 have af:Keeps D w w':=Keeps.of_heap λb o d=>Z b (λe=>by grind)
 have m:Moves D w ow μ st D w' ow μ (st.set k (.arr z g xs')):=by
  refine ⟨λ_ _ d=>d,af,λj T x e=>⟨rfl,?_⟩,λj K E es e=>⟨rfl,?_⟩,λj b e hs=>⟨rfl,b,?_,rfl⟩,λj E g xs e=>?_,λj g e=>?_⟩
  ·grind
  ·grind
  ·by_cases H:j=k
   ·subst H;rw [hk] at e;cases e;exact absurd rfl hs
   ·exact ne e H
  ·by_cases H:j=k
   ·subst H;rw [hk] at e;cases e;refine ⟨_,_,I,Nat.le_refl _,λ_=>⟨hl,λaj al O=>⟨rfl,O,cur',hh,?_⟩⟩⟩;grind
   ·refine ⟨_,_,ne e H,Nat.le_refl _,λ_=>⟨rfl,λcur hc O=>⟨rfl,O,cur,(Z _ (λab=>?_)).trans hc,rfl⟩⟩⟩;grind
  grind
 have J:∀ j,j<Γ.np->∃ b,(st.set k (.arr z g xs'))[j]?=some b/\b.kind=Γ.K0 j:=by
  intro j H;obtain ⟨x,hx,p1⟩:=h.par j H;by_cases ae:j=k
  ·subst ae;rw [hk] at hx;cases hx;exact ⟨_,I,p1⟩
  grind
 refine ⟨⟨λj T x e=>?_,λj K E es e=>?_,λj x e=>?_,λb j o=>?_,λb o d=>by rw [ad];exact h.dlt b o d,ag.trans h.os,ai.trans h.tape,ah.trans h.output,by rw [ad];exact h.hs,λb hb hn=>?_,h.dom0,h.domN,h.owN,by grind,h.mu0,J,λb j y ob e hy o d=>?_,h.keep0.trans m.keeps h.dom0,h.arr0_moves m J⟩,m⟩
 ·by_cases H:j=k
  ·grind
  ·rw [Ao (by omega)] at e;obtain ⟨c,T1,q1,q2,q3,q4,q5⟩:=h.box j T x e;have M:μ j≠μ k:=λab=>by grind
   exact BoxRep.mono ⟨c,T1,q1,q2,q3,q4,q5⟩ m rfl (Z _ M) q3 q4
 ·by_cases H:j=k
  ·grind
  ·rw [Ao (by omega)] at e;obtain ⟨ents,clock,kc,vc,q1,q2,q3⟩:=h.map j K E es e;have M:μ j≠μ k:=λab=>by grind
   exact OMapRep.mono ⟨ents,clock,kc,vc,q1,q2,q3⟩ m.dom m.keeps rfl (Z _ M) q2 q3.1
 ·by_cases H:j=k
  ·subst H;rw [I] at e;cases e;exact Or.inr ⟨cur',hh,b3,b4,hs.1,λi x hx=>(hs.2 i x hx).mono m.dom m.keeps⟩
  ·rw [Ao (by omega)] at e;refine (h.obj j x e).mono m.dom m.keeps (λ_=>rfl) (λc oc=>⟨Z c (λhb=>?_),oc,λ_ d=>d⟩);grind
 ·have:=h.owlt b j o;grind
 ·by_cases aa:b=μ k
  ·subst aa;have:=h.owN _ _ b3 hb;grind
  ·exact (Z b aa).trans (h.old b hb hn)
 ·by_cases H:j=k
  ·subst H;exact h.lone b j _ ob hk (by simp) o d
  ·rw [Ao (by omega)] at e;exact h.lone b j y ob e hy o d
theorem aju (hw:WRel Γ D ow μ st w) (T:TypeId) (a x:SV) (ad xv:Value) (v:SV) (st':List BX) (ha:SRep Γ.P D w ow μ st a ad) (hx:SRep Γ.P D w ow μ st x xv) (h:adz Γ.P T st a x=.upd true v st'):
 ∃ w',(Instr.storeAt T ad xv).run Γ.P w=.ok () w'/\OpRes Γ D ow μ st w (.ok .skip w') v st':=by
 unfold adz at h
 split at h
 ·rename_i k path T';cases I:(Nat.beq T T'&&afd Γ.P T x&&!(Nat.beq (Γ.P.cellsOf T) 0)) with
  | false=>grind
  | true=>
   rw [I] at h;simp only [Aj,Bool.not_eq_true'] at I;have:=Ae I.1.1;subst this;have ag:Γ.P.cellsOf T≠0:=λe=>by simp_all
   simp only [Af] at h;cases ha with
   | @ref _ _ _ TB s off hk hp=>
    rw [hk] at h;simp only at h;cases hg:ah6 Γ.P TB s path x with
    | none=>grind
    | some s'=>
     rw [hg] at h;simp only [Ac.upd.injEq,true_and] at h;obtain ⟨rfl,rfl⟩:=h;obtain ⟨f1,f2,f3⟩:=aep hx I.1.2;obtain ⟨o,T',b1,b2,b3,b4,b5⟩:=hw.box k TB s hk;obtain ⟨r1,r2⟩:=akx path TB s o off T x xv.cells.toList s' b5 b2 hp (by grind) f1 f2 hg;obtain ⟨an,hi,ae⟩:=aav ag;have Z:=run_storeCells_at Γ.P (μ k) off T' xv.cells.toList 0 o.toArray w b1 (by simpa using r2) f2;simp only [Nat.add_zero,List.toList_toArray] at Z;have O:(w.setRow (μ k) (aa7 o off xv.cells.toList).toArray).heap[μ k]?=some (.cells (aa7 o off xv.cells.toList).toArray T' (0,0)):=setRow_heap w (μ k) o.toArray _ T' _ b1;obtain ⟨q1,q2⟩:=hw.setBox hk O (by grind [abq]) (λb I=>setRow_other w (μ k) b _ I) (by simp) rfl rfl rfl r1;refine ⟨w.setRow (μ k) (aa7 o off xv.cells.toList).toArray,?_,Go.undef,_,D,ow,μ,Or.inr ⟨rfl,rfl⟩,q1,q2,.undef⟩;have ah:xv.cells.size=Γ.P.cellsOf T:=by simpa using f1
     simp only [Instr.storeAt,Instr.sureAddr,Sem.run_bind,Sem.run_pure,Result.andThen_ok,storeVar,aau hi ae,ah,ne_eq,not_true_eq_false,Bb];exact Z
 ·rename_i k i E;cases I:(Nat.beq T E&&isOf Γ.P E x&&aa0 Γ.P E) with
  | false=>grind
  | true=>
   rw [I] at h;simp only [Af] at h;simp only [Aj,aa0,Bool.not_eq_true',Bc] at I;obtain ⟨⟨e1,e2⟩,⟨e3,e4⟩,e5⟩:=I;have:=Ae e1;subst this;have ag:Γ.P.cellsOf T≠0:=λe=>by simp_all
   cases ha with
   | @eref _ _ n _ TB s hk hT hi=>
    rw [hk] at h;split at h;case h_2=>cases h
    rename_i aB ao pv he;cases he;cases hc:(Nat.beq TB ao&&as7 Γ.P TB T) with
    | false=>grind
    | true=>
     rw [hc] at h;simp only [Af,Ac.upd.injEq,true_and] at h;obtain ⟨rfl,rfl⟩:=h;simp only [Aj] at hc;have:=Ae hc.1;subst this;have av:Γ.P.cellsOf TB=n*Γ.P.cellsOf T:=by have:=hc.2;unfold as7 at this;simp_all
     obtain ⟨o,T',b1,b2,b3,b4,b5⟩:=hw.box k TB _ hk;obtain ⟨a1,a2,a3,a4,a5⟩:=ank hT b5 b2;have aa:=aa2 hx T e2;have M:xv.cells.toList.length=Γ.P.cellsOf T:=by
      cases ak:aaj Γ.P T with
      | true=>exact aa.aggLen ak
      | false=>
       rcases e5 with h' | h'
       ·grind
       ·obtain ⟨u,hu⟩:=aa.single ak;grind [Nat.eq_of_beq_eq_true]
     have af:(i+1)*Γ.P.cellsOf T<=n*Γ.P.cellsOf T:=Au _ (by omega);rw [Nat.add_mul] at af;have J:i*Γ.P.cellsOf T+xv.cells.toList.length<=o.length:=by omega
     obtain ⟨an,ab,ae⟩:=aav ag;have Z:=run_storeCells_at Γ.P (μ k) (i*Γ.P.cellsOf T) T' xv.cells.toList 0 o.toArray w b1 (by simpa using J) aa.oneCell;simp only [Nat.add_zero,List.toList_toArray] at Z;have O:(w.setRow (μ k) (aa7 o (i*Γ.P.cellsOf T) xv.cells.toList).toArray).heap[μ k]?=some (.cells (aa7 o (i*Γ.P.cellsOf T) xv.cells.toList).toArray T' (0,0)):=setRow_heap w (μ k) o.toArray _ T' _ b1;have al:aaj Γ.P TB=true:=by simp [aaj,hT]
     have r1:SRep Γ.P D w ow μ st (.data TB (.agg (pv.parts.set i (toPV x)))) (pack Γ.P TB (aa7 o (i*Γ.P.cellsOf T) xv.cells.toList)):=by
      simp only [pack,al,A9];refine .data al (.arr hT (by grind [abq]) (λc H=>?_) (by simpa using a2) (λm y hm=>?_))
      ·unfold aa7 at H;simp only [Bm] at H;rcases H with (H | H) | H
       ·grind
       ·exact aa.oneCell c H
       grind
      ·by_cases aj:m=i
       ·grind [List.getElem?_set_self,ao7]
       ·rw [Ao (by omega)] at hm;rw [adq J]
        ·exact a5 m y hm
        ·rw [M];rcases Nat.lt_or_gt_of_ne aj with h' | h'
         ·have:(m+1)*Γ.P.cellsOf T<=i*Γ.P.cellsOf T:=Au _ (by omega);grind
         ·have:(i+1)*Γ.P.cellsOf T<=m*Γ.P.cellsOf T:=Au _ (by omega);grind
     obtain ⟨q1,q2⟩:=hw.setBox hk O (by grind [abq]) (λb I=>setRow_other w (μ k) b _ I) (by simp) rfl rfl rfl r1;refine ⟨w.setRow (μ k) (aa7 o (i*Γ.P.cellsOf T) xv.cells.toList).toArray,?_,Go.undef,_,D,ow,μ,Or.inr ⟨rfl,rfl⟩,q1,q2,.undef⟩;have ah:xv.cells.size=Γ.P.cellsOf T:=by simpa using M
     simp only [Instr.storeAt,Instr.sureAddr,Sem.run_bind,Sem.run_pure,Result.andThen_ok,storeVar,aau ab ae,ah,ne_eq,not_true_eq_false,Bb];exact Z
 ·rename_i k g i E path T';cases I:(Nat.beq T T'&&aa0 Γ.P E&&afd Γ.P T x&&!(Nat.beq (Γ.P.cellsOf T) 0)) with
  | false=>grind
  | true=>
   rw [I] at h;simp only [Af] at h;simp only [Aj,aa0,Bool.not_eq_true',Bc] at I;obtain ⟨⟨⟨aq,⟨aC,aD⟩,ar⟩,au⟩,aE⟩:=I;have:=Ae aq;subst this;have ag:Γ.P.cellsOf T≠0:=λe=>by simp_all
   split at h;case h_2=>cases h
   rename_i xs ap;have ai:=abw ap;split at h;case h_2=>cases h
   rename_i y hg;cases hy:isOf Γ.P E y with
   | false=>grind
   | true=>
   rw [hy] at h;simp only [Af,Ac.upd.injEq,true_and] at h;obtain ⟨rfl,rfl⟩:=h;cases ha with
   | arefOld hk hg=>grind
   | @aref _ _ _ off _ _ _ aH cur hk hi hp hc ho=>
    rw [ai] at hk;cases hk;obtain ⟨a1,a2,a3⟩:=ax4 hw ai hi hc;obtain ⟨f1,f2,f3⟩:=aep hx au;have af:=a1;rw [Nat.add_mul] at af;have M:((cur.toList.drop (i*Γ.P.cellsOf E)).take (Γ.P.cellsOf E)).length=Γ.P.cellsOf E:=by simp;omega
    obtain ⟨r1,r2⟩:=akx path E _ _ off T x xv.cells.toList y (a3.ofPV (ow:=ow) (μ:=μ) (st:=st)) M hp (by grind) f1 f2 hg;rw [M] at r2;obtain ⟨an,ab,ae⟩:=aav ag;have J:i*Γ.P.cellsOf E+off+xv.cells.toList.length<=cur.toList.length:=by grind
    have Z:=run_storeCells_at Γ.P (μ k) (i*Γ.P.cellsOf E+off) E xv.cells.toList 0 cur w hc (by simpa using J) f2;simp only [Nat.add_zero,List.toList_toArray] at Z;have O:(w.setRow (μ k) (aa7 cur.toList (i*Γ.P.cellsOf E+off) xv.cells.toList).toArray).heap[μ k]?=some (.cells (aa7 cur.toList (i*Γ.P.cellsOf E+off) xv.cells.toList).toArray E (0,0)):=setRow_heap w (μ k) cur _ E _ hc;have aG:=aa2 r1 E hy;have ay:xs.length*Γ.P.cellsOf E<=cur.size/\∀ (j:Nat) (z:PV),xs[j]?=some z->Rep Γ.P D w E z ((cur.toList.drop (j*Γ.P.cellsOf E)).take (Γ.P.cellsOf E)):=by rcases hw.obj k _ ai with h0 | ⟨aA,q1,q2,q3,q4,q5⟩;all_goals grind
    have az:(aa7 cur.toList (i*Γ.P.cellsOf E+off) xv.cells.toList).toArray.size=cur.size:=by grind [abq]
    have aw:∀ (m:Nat) (z:PV),(xs.set i (toPV y))[m]?=some z->Rep Γ.P D w E z ((((aa7 cur.toList (i*Γ.P.cellsOf E+off) xv.cells.toList).toArray).toList.drop (m*Γ.P.cellsOf E)).take (Γ.P.cellsOf E)):=by
     intro m z hm;have am:off+xv.cells.toList.length<=Γ.P.cellsOf E:=by simpa using r2
     by_cases aj:m=i
     ·subst aj;rw [List.getElem?_set_self hi] at hm;cases hm;simp only;rw [aky (by simp;omega) am];have aF:(pack Γ.P E (aa7 ((cur.toList.drop (m*Γ.P.cellsOf E)).take (Γ.P.cellsOf E)) off xv.cells.toList)).cells.toList=aa7 ((cur.toList.drop (m*Γ.P.cellsOf E)).take (Γ.P.cellsOf E)) off xv.cells.toList:=by
       have ax:(aa7 ((cur.toList.drop (m*Γ.P.cellsOf E)).take (Γ.P.cellsOf E)) off xv.cells.toList).length=Γ.P.cellsOf E:=by grind [abq]
       refine alo (ar.imp id (λh=>ax.trans (Ae h))) (λc H=>?_);unfold aa7 at H;simp only [Bm] at H;rcases H with (H | H) | H
       ·exact a3.oneCell c (List.mem_of_mem_take H)
       ·exact f2 c H
       ·exact a3.oneCell c (List.mem_of_mem_drop H)
      grind
     ·rw [Ao (by omega)] at hm;simp only;rw [adq J]
      ·grind
      ·rcases Nat.lt_or_gt_of_ne aj with h' | h'
       ·have:(m+1)*Γ.P.cellsOf E<=i*Γ.P.cellsOf E:=Au _ (by omega);grind
       ·have:(i+1)*Γ.P.cellsOf E<=m*Γ.P.cellsOf E:=Au _ (by omega);grind
    obtain ⟨q1,q2⟩:=hw.setArr (xs':=xs.set i (toPV y)) ai hc ho a2 O az (by simp) (λb I=>setRow_other w (μ k) b _ I) (by simp) rfl rfl rfl ⟨by grind,aw⟩;refine ⟨w.setRow (μ k) (aa7 cur.toList (i*Γ.P.cellsOf E+off) xv.cells.toList).toArray,?_,Go.undef,_,D,ow,μ,Or.inr ⟨rfl,rfl⟩,q1,q2,.undef⟩;have ah:xv.cells.size=Γ.P.cellsOf T:=by simpa using f1
    simp only [Instr.storeAt,Instr.sureAddr,Sem.run_bind,Sem.run_pure,Result.andThen_ok,storeVar,aau ab ae,ah,ne_eq,not_true_eq_false,Bb];exact Z
 ·simp at h
theorem asj (hw:WRel Γ D ow μ st w) (T:TypeId) (a x:SV) (H xv:Value) (v:SV) (st':List BX) (ha:SRep Γ.P D w ow μ st a H) (hx:SRep Γ.P D w ow μ st x xv) (h:aeb Γ.P T st a x=.upd true v st'):∃ w',(Instr.storeAt T H xv).run Γ.P w=.ok () w'/\OpRes Γ D ow μ st w (.ok .skip w') v st':=by
 unfold aeb at h;split at h
 ·split at h
  ·rename_i k g i E p T0 T1 j hj;split at h
   ·rename_i E1 g1 af hk;cases hb:Nat.beq j k with
    | true=>grind
    | false=>
     rw [hb] at h;simp only [Ah] at h;obtain ⟨h1,o⟩:=hw.freezeRow hk;have O:=aij (fz:=[j]) hw hx (λk' ab=>by grind);have m2:Moves (ac3 D ow μ st [j]) w ow μ st (ac3 D ow μ st [j]) w (amh ow j) μ (st.set j (.arr E1 (g1+1) [])):=⟨λ_ _ d=>d,Keeps.refl _ _,o.box,o.map,o.obj,o.arr,λk' g' e=>by obtain ⟨g2,e2,ae,hs⟩:=o.acc k' g' e;grind⟩
     obtain ⟨w',z,u,w2,D2,Z,aa,hr,M,I,J⟩:=aju h1 T _ _ H xv v st' (ha.mono o) (O.mono m2) h;exact ⟨w',z,u,w2,D2,Z,aa,hr,M,o.trans I,J⟩
   ·cases h
  grind [aju]
 grind [aju]
theorem ar3 (z:WRel Γ D ow μ st w) (T K E:TypeId):∃ u w',(Instr.makeMap T none).run Γ.P w=.ok u w'/\OpRes Γ D ow μ st w (.ok (.value u) w') (.mref st.length) (st++[.map K E []]):=by
 have M:∀ o,¬D w.heap.size o:=λo d=>by have:=z.dlt _ _ d;omega
 obtain ⟨H,I⟩:=z.newOwn (.map #[] 0) (.map K E []) (λm=>
  ⟨#[],0,λ_=>[],λ_=>[],by grind [aah,aas],by rw [aah,aah],by grind [aah],rfl,λi x h=>by simp at h,λi x h=>by simp at h,⟨λi e J=>by simp at J,BornOk.nil⟩,AtIdx.nil⟩)
 refine ⟨.map (some w.heap.size),w.alloc (.map #[] 0),by simp [Instr.makeMap],_,_,_,_,_,Or.inl rfl,H,I,?_⟩;have:=SRep.mref (P:=Γ.P) (D:=D) (w:=w.alloc (.map #[] 0)) (ow:=upd ow w.heap.size (some st.length)) (μ:=upd μ st.length w.heap.size) (st:=st++[.map K E []]) (k:=st.length) (K:=K) (E:=E) (es:=[])
  (by grind)
 grind [aah]
theorem a2u (hw:WRel Γ D ow μ st w) {η:Operand->Value}{ρ:Operand->SV} (ad:∀ x,SRep Γ.P D w ow μ st (ρ x) (η x)) (o:Oper) {k:Nat}{v:SV}{b:BX}{st':List BX} (h:extV Γ.P o.op ρ k=some (v,b)) (O:aqx Γ.np st k b st'):
 OpRes Γ D ow μ st w ((execOp η o).run Γ.P w) v st':=by
 have hD:∀ o,¬D w.heap.size o:=λo d=>by have:=hw.dlt _ _ d;omega
 have aa:∀ T,b=.bld T []->v=.bref k T->∀ r:Result Next,r=.ok (.value (.pointer (some ⟨w.heap.size,0,none⟩))) (w.alloc (.cells #[.pointer none,.slice none 0 0] T))->OpRes Γ D ow μ st w r v st':=by
  intro T J hv r hr;subst J;subst hv;obtain ⟨h0,M,Z⟩:=hw.newOwnAt (.cells #[.pointer none,.slice none 0 0] T) (.bld T []) (λm=>show BldRep _ _ _ _ _ _ _ _ from
   ⟨.pointer none,.slice none 0 0,by grind [aah,aas],Or.inl rfl,by rw [aah,aah],by grind [aah],Or.inl ⟨rfl,rfl⟩⟩) O
  refine ⟨_,_,_,_,_,Or.inl hr,M,Z,?_⟩;have:=SRep.bref (P:=Γ.P) (D:=D) (w:=w.alloc (.cells #[.pointer none,.slice none 0 0] T)) (ow:=upd ow w.heap.size (some k)) (μ:=upd μ k w.heap.size) (k:=k) (T:=T) (TB:=T) (bs:=[]) h0;grind [aah]
 have ab:∀ T s,b=.box T s->v=.ref k [] T->∀ (H:List Value),H.length=Γ.P.cellsOf T->SRep Γ.P D w ow μ st s (pack Γ.P T H)->∀ r:Result Next,r=.ok (.value (.pointer (some ⟨w.heap.size,0,none⟩))) (w.alloc (.cells H.toArray T))->OpRes Γ D ow μ st w r v st':=by
  intro T s J hv H hl hs r hr;subst J;subst hv;obtain ⟨h0,M,Z⟩:=hw.newOwnAt (.cells H.toArray T) (.box T s) (λm=>
   ⟨H,T,by grind [aah,aas],hl,by rw [aah,aah],by grind [aah],hs.mono m⟩) O
  refine ⟨_,_,_,_,_,Or.inl hr,M,Z,?_⟩;have:=SRep.ref (P:=Γ.P) (D:=D) (w:=w.alloc (.cells H.toArray T)) (ow:=upd ow w.heap.size (some k)) (μ:=upd μ k w.heap.size) (k:=k) (path:=[]) (T:=T) (TB:=T) (v:=s) (off:=0) h0 rfl;grind [aah]
 unfold extV at h
 split at h
 ·rename_i T I;cases J:ai6 Γ.P T with
  | true=>rw [J] at h;simp only [Af,Ak,Prod.mk.injEq] at h;simp only [ai6,Aj] at J;obtain ⟨i,hi,hz⟩:=al8 J.2;exact aa T h.2.symm h.1.symm _ (by simp [execOp,I,Instr.alloc,zeroValue,typeInfo,hi,hz,newVar,newRow,Value.cells])
  | false=>
   rw [J] at h;simp only [Ah] at h;cases hz:ab3 Γ.P T with
   | false=>grind
   | true=>rw [hz] at h;simp only [Af,Ak,Prod.mk.injEq] at h;obtain ⟨i,z,hi,ae,ah,af,ai,aj,ag⟩:=abl (Γ:=Γ) (D:=D) (ow:=ow) (μ:=μ) (st:=st) (w:=w) hz;exact ab T _ h.2.symm h.1.symm z.cells.toList (by simpa using af) (by grind) _ (by simp [execOp,I,Instr.alloc,zeroValue,typeInfo,hi,ae,newVar,newRow])
 ·rename_i T x I;cases J:(ai6 Γ.P T&&amb Γ.P 3 T (ρ x)) with
  | true=>rw [J] at h;simp only [Af,Ak,Prod.mk.injEq] at h;simp only [Aj] at J;have hv:=ap9 3 T _ _ (ad x) J.2;exact aa T h.2.symm h.1.symm _ (by simp [execOp,I,hv,Instr.box,newVar,newRow,Value.cells])
  | false=>
   rw [J] at h;simp only [Ah] at h;cases hf:afd Γ.P T (ρ x) with
   | false=>grind
   | true=>rw [hf] at h;simp only [Af,Ak,Prod.mk.injEq] at h;obtain ⟨M,Z,h3⟩:=aep (ad x) hf;exact ab T _ h.2.symm h.1.symm (η x).cells.toList M (by grind) _ (by simp [execOp,I,Instr.box,newVar,newRow])
 ·rename_i T r I;split at h
  ·rename_i K E hT;simp only [Ak,Prod.mk.injEq] at h;obtain ⟨rfl,rfl⟩:=h;obtain ⟨h0,M,Z⟩:=hw.newOwnAt (.map #[] 0) (.map K E []) (λm=>
    ⟨#[],0,λ_=>[],λ_=>[],by grind [aah,aas],by rw [aah,aah],by grind [aah],rfl,λi x hx=>by simp at hx,λi x hx=>by simp at hx,⟨λi e he=>by simp at he,BornOk.nil⟩,AtIdx.nil⟩) O
   refine ⟨.map (some w.heap.size),w.alloc (.map #[] 0),_,_,_,Or.inl (by simp [execOp,I,Instr.makeMap]),M,Z,?_⟩;have:=SRep.mref (P:=Γ.P) (D:=D) (w:=w.alloc (.map #[] 0)) (ow:=upd ow w.heap.size (some k)) (μ:=upd μ k w.heap.size) (k:=k) (K:=K) (E:=E) (es:=[]) h0;grind [aah]
  ·cases h
 ·cases h
theorem WRel.setMap (h:WRel Γ D ow μ st w) {k:Nat}{K E:TypeId}{es es':List (PV×PV)} (hk:st[k]?=some (.map K E es)) {w':World}{ents:Array MapEntry}{clock:Nat}{kc vc:Nat->List Value}
 (hh:w'.heap[μ k]?=some (.map ents clock)) (hl:ents.size=es'.length) (ho:∀ b,b≠μ k->w'.heap[b]?=w.heap[b]?) (aa:w'.heap.size=w.heap.size)
 (ai:w'.os=w.os) (ak:w'.tape=w.tape) (aj:w'.output=w.output)
 (h1:∀ (i:Nat) (x:PV×PV),es'[i]?=some x->Rep Γ.P D w K x.1 (kc i)) (h2:∀ (i:Nat) (x:PV×PV),es'[i]?=some x->Rep Γ.P D w E x.2 (vc i))
 (h3:ax0 Γ.P K E kc vc ents clock) (h4:AtIdx ents clock):
 WRel Γ D ow μ (st.set k (.map K E es')) w'/\Moves D w ow μ st D w' ow μ (st.set k (.map K E es')):=by
 have an:=(A5.1 hk).1
 obtain ⟨af,ae,ao,ap,b1,b3,b4,_⟩:=h.map k K E es hk
 have ne:∀ {j:Nat}{y:BX},st[j]?=some y->j≠k->(st.set k (.map K E es'))[j]?=some y:=λe z=>by grind
 have H:(st.set k (.map K E es'))[k]?=some (.map K E es'):=by grind
 have ag:Keeps D w w':=Keeps.of_heap λb o d=>ho b (λe=>by grind)
 have m:Moves D w ow μ st D w' ow μ (st.set k (.map K E es')):=by
  refine ⟨λ_ _ d=>d,ag,λj T x e=>⟨rfl,?_⟩,λj K E es e=>⟨rfl,?_⟩,λj b e hs=>⟨rfl,b,?_,rfl⟩,λj E g xs e=>?_,λj g e=>?_⟩
  ·grind
  ·grind
  ·by_cases z:j=k
   ·subst z;rw [hk] at e;cases e;exact absurd rfl hs
   ·exact ne e z
  ·by_cases z:j=k
   ·grind
   ·refine ⟨g,xs,ne e z,Nat.le_refl _,λ_=>⟨rfl,λcur hc ah=>⟨rfl,ah,cur,(ho _ (λJ=>?_)).trans hc,rfl⟩⟩⟩;grind
  grind
 have M:∀ j,j<Γ.np->∃ b,(st.set k (.map K E es'))[j]?=some b/\b.kind=Γ.K0 j:=by
  intro j z;obtain ⟨x,hx,p1⟩:=h.par j z;by_cases ad:j=k
  ·subst ad;rw [hk] at hx;cases hx;exact ⟨_,H,p1⟩
  ·exact ⟨x,ne hx ad,p1⟩
 refine ⟨⟨λj T x e=>?_,λj K E es e=>?_,λj x e=>?_,λb j o=>?_,λb o d=>by rw [aa];exact h.dlt b o d,ai.trans h.os,ak.trans h.tape,aj.trans h.output,by rw [aa];exact h.hs,λb hb hn=>?_,h.dom0,h.domN,h.owN,by simpa using h.np,h.mu0,M,λb j y ob e hy o d=>?_,h.keep0.trans m.keeps h.dom0,h.arr0_moves m M⟩,m⟩
 ·by_cases z:j=k
  ·subst z;rw [H] at e;cases e
  ·rw [Ao (by omega)] at e;obtain ⟨c,T1,q1,q2,q3,q4,q5⟩:=h.box j T x e;have Z:μ j≠μ k:=λJ=>by rw [J,b3] at q3;cases q3;exact z rfl
   exact BoxRep.mono ⟨c,T1,q1,q2,q3,q4,q5⟩ m rfl (ho _ Z) q3 q4
 ·by_cases z:j=k
  ·subst z;rw [H] at e;cases e;exact ⟨ents,clock,kc,vc,hh,b3,b4,hl,λi x a=>(h1 i x a).mono m.dom m.keeps,λi x a=>(h2 i x a).mono m.dom m.keeps,h3,h4⟩
  ·rw [Ao (by omega)] at e;obtain ⟨O,I,al,am,q1,q2,q3⟩:=h.map j _ _ _ e;have Z:μ j≠μ k:=λJ=>by rw [J,b3] at q2;cases q2;exact z rfl
   exact OMapRep.mono ⟨O,I,al,am,q1,q2,q3⟩ m.dom m.keeps rfl (ho _ Z) q2 q3.1
 ·by_cases z:j=k
  ·subst z;rw [H] at e;cases e;trivial
  ·rw [Ao (by omega)] at e;refine (h.obj j x e).mono m.dom m.keeps (λ_=>rfl) (λc oc=>⟨ho c (λhb=>?_),oc,λ_ d=>d⟩);subst hb;rw [b3] at oc;cases oc;exact z rfl
 ·have:=h.owlt b j o;rw [aa];simpa using this
 ·by_cases ab:b=μ k
  ·subst ab;have:=h.owN _ _ b3 hb;rw [hn] at this;cases this
  ·exact (ho b ab).trans (h.old b hb hn)
 ·by_cases z:j=k
  ·subst z;exact h.lone b j _ ob hk (by simp) o d
  ·rw [Ao (by omega)] at e;exact h.lone b j y ob e hy o d
theorem ayq {d:TypeDesc}{x y:PV}{a b:Value} (I:Key1 d x a) (z:Key1 d y b) (h:ad3 y x=true):a=b:=by
 cases I with
 | str s o=>subst o;cases z with
  | str t _=>simp [ad3] at h;subst h;rfl
  | int _ _ h=>cases h
  | bool _ h=>cases h
 | int k n o=>subst o;cases z with
  | int J m H=>cases H;simp [ad3] at h;subst h;rfl
  | str _ h=>cases h
  | bool _ h=>cases h
 | bool p o=>subst o;cases z with
  | bool q _=>simp [ad3] at h;subst h;rfl
  | int _ _ h=>cases h
  | str _ h=>cases h
theorem at7 {d:TypeDesc}{x:PV}{a:Value} (h:Key1 d x a) (n:Nat):Instr.sameBits n a a=true:=by cases h<;>simp [Instr.sameBits,ax9]
theorem a4d {P:Program}:∀ {n:Nat}{I:List Field}{xs:List PV}{cs:List Value},KeysL P n I xs cs->∀ {ys:List PV}{es:List Value},KeysL P n I ys es->an8 ys xs=true->cs=es:=by
 intro n I xs cs h;induction h with
 | nil n=>intro ys es o _;cases o;rfl
 | @cons n f d fs x xs a cs ho hn O Z _ ih=>
  intro ys es o H;cases o with
  | @cons _ _ d' _ y ys b es ab aa z M o=>
   rw [O] at z;cases z;simp only [an8] at H;cases J:ad3 y x with
   | false=>rw [J] at H;cases H
   | true=>rw [J] at H;rw [ayq Z M J,ih o H]
theorem a0g {P:Program} (m:Nat):∀ {n:Nat}{o:List Field}{xs:List PV}{cs:List Value},KeysL P n o xs cs->(cs.zip cs).all (λ(x,y)=>Instr.sameBits m x y)=true:=by
 intro n o xs cs h;induction h with
 | nil n=>rfl
 | cons M J I z _ H=>simp only [List.zip_cons_cons,Bi,at7 z,Bool.true_and];exact H
theorem au1 {P:Program}{K:TypeId}{d:TypeDesc}{x y:PV}{a b:Value} (M:KeyIs P K d x a) (O:KeyIs P K d y b) (h:agy y x=true) (w:World):(Instr.keyThatStays a b).run P w=.ok b w/\a=b:=by
 have Z:∀ {H:Array Field}{x:PV}{a:Value},Key1 (.struct H) x a->False:=λh=>by cases h<;>rename_i h<;>cases h
 have e:a=b:=by
  cases M with
  | one o=>
   cases O with
   | one z=>
    have e1:agy y x=ad3 y x:=by cases z<;>rfl
    rw [e1] at h;exact ayq o z h
   | agg H _ _ z=>subst z;exact absurd o (λh=>Z h)
  | agg H xs cs o z I=>
   subst o;cases O with
   | one J=>exact absurd J (λh=>Z h)
   | agg aa ys es J h5 h6=>cases J;rw [a4d I h6 h]
 subst e;refine ⟨?_,rfl⟩;have hb:Instr.sameBits 10000 a a=true:=by
  cases M with
  | one o=>exact at7 o _
  | agg H xs cs o z I=>have:=a0g 9999 I;simp only [Instr.sameBits,List.toList_toArray,beq_self_eq_true,Bool.true_and];exact this
 simp [Instr.keyThatStays,hb]
theorem ahz (hw:WRel Γ D ow μ st w) (T:TypeId) (m k x:SV) (mv M xv:Value) (v:SV) (st':List BX) (hm:SRep Γ.P D w ow μ st m mv) (hk:SRep Γ.P D w ow μ st k M) (hx:SRep Γ.P D w ow μ st x xv)
 (h:abv Γ.P T st m k x=.upd true v st'):∃ w',(Instr.mapUpdate T mv M xv).run Γ.P w=.ok () w'/\OpRes Γ D ow μ st w (.ok .skip w') v st':=by
 unfold abv at h
 split at h
 ·rename_i K E hT;cases hc:(keyT Γ.P K&&isOf Γ.P K k&&isOf Γ.P E x) with
  | false=>rw [hc] at h;simp at h
  | true=>
   rw [hc] at h;simp only [Af] at h;simp only [Aj] at hc;obtain ⟨⟨c1,c2⟩,c3⟩:=hc;split at h
   ·rename_i j;split at h
    ·rename_i K' E' es hj;cases Z:(Nat.beq K K'&&Nat.beq E E') with
     | false=>rw [Z] at h;simp at h
     | true=>
      rw [Z] at h;simp only [Aj] at Z;have:=Ae Z.1;subst this;have:=Ae Z.2;subst this;simp only [Af,Ac.upd.injEq,true_and] at h;obtain ⟨rfl,rfl⟩:=h;cases hm;obtain ⟨ents,clock,kc,vc,r1,r2,r3,r4,r5,r6,r7,r8⟩:=hw.map j K E es hj;have ak:=aa2 hk K c2;have ai:=af7 hk c2;have al:=aa2 hx E c3;have aj:=af7 hx c3;obtain ⟨d,hd,J⟩:=agz c1 ak;rw [ai] at J;have ab:∀ (i:Nat) (e:MapEntry) (y:PV×PV),ents.toList[i]?=some e->es[i]?=some y->KeyIs Γ.P K d y.1 e.key:=by intro i e y he hy;obtain ⟨d',ag,ao⟩:=agz c1 (r5 i y hy);rw [hd] at ag;cases ag;rw [(r7.1 i e (by simpa using he)).1];exact ao
      have ah:μ j<w.heap.size:=(hw.owlt _ _ r2).1;rcases alc hd J ents.toList es 0 (by simpa using r4) ab with ⟨i,y,e,q1,q2,q3,q4,q5,q6,_⟩ | ⟨q1,q2,q6,_⟩
      ·have aa:ents[i]?=some e:=by simpa using q2
       have am:=ab i e y q2 q1;obtain ⟨s1,s2⟩:=au1 am J q3 w;have ad:∀ (n:Nat),(ents.modify i λe=>{ e with key:=M,val:=xv })[n]?=if n=i then some { e with key:=M,val:=xv } else ents[n]?:=by
        intro n;rw [Array.getElem?_modify];by_cases o:i=n
        ·subst o;simp [aa]
        ·rw [if_neg o,if_neg (λh=>o h.symm)]
       refine ⟨{ w with heap:=w.heap.setIfInBounds (μ j) (.map (ents.modify i λe=>{ e with key:=M,val:=xv }) clock) },?_,?_⟩
       ·simp only [Nat.zero_add] at q5;have an:((ents[i]?).map (·.key)).getD M=e.key:=by rw [aa];rfl
        simp only [Instr.mapUpdate,Sem.run_bind,run_underlying hT,Result.andThen_ok,getObj,Sem.run,r1,acz hd J,adh hd q5,an,s1,setObj]
       ·rw [q6];have O:=hw.setMap hj (w':={ w with heap:=w.heap.setIfInBounds (μ j) (.map (ents.modify i λe=>{ e with key:=M,val:=xv }) clock) }) (ents:=ents.modify i λe=>{ e with key:=M,val:=xv }) (clock:=clock)
         (es':=es.set i (y.1,toPV x)) (kc:=kc) (vc:=upd vc i xv.cells.toList) (by simp [ah]) (by simpa using r4) (λb Z=>by simp [Array.getElem?_setIfInBounds_ne (λe=>Z e.symm)]) (by simp) rfl rfl rfl
        refine (λh1 h2 h3 h4=>by obtain ⟨u1,u2⟩:=O h1 h2 h3 h4;exact ⟨_,_,_,_,_,Or.inr ⟨rfl,rfl⟩,u1,u2,.undef⟩) (λn z H=>?_) (λn z H=>?_) (And.intro (λn f I=>?_) (r7.2.same ?hs)) (r8.same Array.size_modify ?hs)
        ·by_cases o:n=i
         ·subst o;rw [List.getElem?_set_self (A5.1 q1).1] at H;cases H;exact r5 n y q1
         ·rw [Ao (by omega)] at H;exact r5 n z H
        ·by_cases o:n=i
         ·subst o;rw [List.getElem?_set_self (A5.1 q1).1] at H;cases H;rw [aah];exact al
         ·rw [Ao (by omega)] at H;rw [aak _ _ o];exact r6 n z H
        ·rw [ad] at I;by_cases o:n=i
         ·subst o;rw [if_pos rfl] at I;cases I;refine ⟨?_,by rw [aah];exact aj.symm⟩;show M=_;rw [<-s2];exact (r7.1 n e aa).1
         ·rw [if_neg o] at I;rw [aak _ _ o];exact r7.1 n f I
        case hs=>
         intro n f I
         rw [ad] at I
         by_cases o:n=i
         ·subst o;rw [if_pos rfl] at I;cases I;exact ⟨e,aa,rfl⟩
         ·rw [if_neg o] at I;exact ⟨f,I,rfl⟩
      ·refine ⟨{ w with heap:=w.heap.setIfInBounds (μ j) (.map (ents.push { key:=M,val:=xv,born:=clock }) (clock+1)) },?_,?_⟩
       ·simp only [Instr.mapUpdate,Sem.run_bind,run_underlying hT,Result.andThen_ok,getObj,Sem.run,r1,acz hd J,adh hd q2,setObj]
       ·rw [q6];have af:∀ n,(ents.push { key:=M,val:=xv,born:=clock })[n]?=if n=ents.size then some { key:=M,val:=xv,born:=clock } else ents[n]?:=λn=>Array.getElem?_push
        have O:=hw.setMap hj (w':={ w with heap:=w.heap.setIfInBounds (μ j) (.map (ents.push { key:=M,val:=xv,born:=clock }) (clock+1)) }) (ents:=ents.push { key:=M,val:=xv,born:=clock }) (clock:=clock+1)
         (es':=es++[(toPV k,toPV x)]) (kc:=upd kc ents.size M.cells.toList) (vc:=upd vc ents.size xv.cells.toList) (by simp [ah]) (by simp [r4]) (λb Z=>by simp [Array.getElem?_setIfInBounds_ne (λe=>Z e.symm)]) (by simp) rfl rfl rfl
        refine (λh1 h2 h3 h4=>by obtain ⟨u1,u2⟩:=O h1 h2 h3 h4;exact ⟨_,_,_,_,_,Or.inr ⟨rfl,rfl⟩,u1,u2,.undef⟩) (λn z H=>?_) (λn z H=>?_) (And.intro (λn f I=>?_) (r7.2.push _ rfl)) (r8.push _ rfl)
        ·by_cases o:n<es.length
         ·rw [A3 o] at H;rw [aak _ _ (by omega)];exact r5 n z H
         ·have ae:n=ents.size:=by have:=(A5.1 H).1;simp at this;omega
          subst ae;rw [r4,A7 (Nat.le_refl _)] at H;simp at H;subst H;rw [aah];exact ak
        ·by_cases o:n<es.length
         ·rw [A3 o] at H;rw [aak _ _ (by omega)];exact r6 n z H
         ·have ae:n=ents.size:=by have:=(A5.1 H).1;simp at this;omega
          subst ae;rw [r4,A7 (Nat.le_refl _)] at H;simp at H;subst H;rw [aah];exact al
        ·rw [af] at I;by_cases o:n=ents.size
         ·subst o;rw [if_pos rfl] at I;cases I;rw [aah,aah];exact ⟨ai.symm,aj.symm⟩
         ·rw [if_neg o] at I;rw [aak _ _ o,aak _ _ o];exact r7.1 n f I
    ·simp at h
   ·simp at h
 ·simp at h
theorem apr (hw:WRel Γ D ow μ st w) (T:TypeId) (m k:SV) (mv J:Value) (v:SV) (st':List BX) (hm:SRep Γ.P D w ow μ st m mv) (hk:SRep Γ.P D w ow μ st k J)
 (h:ab9 Γ.P T st m k=.upd true v st'):∃ u w',(Instr.mapEntry T mv J).run Γ.P w=.ok u w'/\OpRes Γ D ow μ st w (.ok (.value u) w') v st':=by
 unfold ab9 at h
 split at h
 ·rename_i K E hT;cases hc:(keyT Γ.P K&&isOf Γ.P K k&&ab3 Γ.P E&&isOf Γ.P E (aa1 Γ.P 12 E)) with
  | false=>rw [hc] at h;simp at h
  | true=>
   rw [hc] at h;simp only [Af] at h;simp only [Aj] at hc;obtain ⟨⟨⟨c1,c2⟩,c3⟩,c4⟩:=hc;split at h
   ·rename_i j;split at h
    ·rename_i K' E' es hj;cases hb:(Nat.beq K K'&&Nat.beq E E') with
     | false=>rw [hb] at h;simp at h
     | true=>
      rw [hb] at h;simp only [Aj] at hb;have:=Ae hb.1;subst this;have:=Ae hb.2;subst this;simp only [Af,Ac.upd.injEq,true_and] at h;obtain ⟨rfl,rfl⟩:=h;cases hm;obtain ⟨ents,clock,kc,vc,r1,r2,r3,r4,r5,r6,r7,r8⟩:=hw.map j K E es hj;have ak:=aa2 hk K c2;have aj:=af7 hk c2;obtain ⟨iz,z,hi,au,aA,aB,ax,ay,az⟩:=abl (Γ:=Γ) (D:=D) (ow:=ow) (μ:=μ) (st:=st) (w:=w) c3;have av:=aa2 ay E c4;obtain ⟨d,hd,I⟩:=agz c1 ak;rw [aj] at I;have aa:∀ (i:Nat) (e:MapEntry) (y:PV×PV),ents.toList[i]?=some e->es[i]?=some y->KeyIs Γ.P K d y.1 e.key:=by intro i e y he hy;obtain ⟨d',ah,aw⟩:=agz c1 (r5 i y hy);rw [hd] at ah;cases ah;rw [(r7.1 i e (by simpa using he)).1];exact aw
      have ai:μ j<w.heap.size:=(hw.owlt _ _ r2).1;have am:∀ (n:Nat) (zv:Value) (D':Dom) (w':World) (al:Own) (an:Nat->Nat) (st':List BX),SRep Γ.P D' w' al an st' (.tup [.undef,.int .i64 ((n:Nat):Int)]) (.tuple #[zv,.int .i64 (n:Int)]):=by
       intro n zv D' w' al an st';refine .tup rfl (λi s v hs hv=>?_);match i,hs,hv with
       | 0,hs,hv=>cases hs;exact .undef
       | 1,hs,hv=>cases hs;cases hv;exact .int
      rcases alc hd I ents.toList es 0 (by simpa using r4) aa with ⟨i,y,e,q1,q2,q3,q4,q5,q6,q7⟩ | ⟨q1,q2,q6,q7⟩
      ·have M:ents[i]?=some e:=by simpa using q2
       have ap:=aa i e y q2 q1;obtain ⟨s1,s2⟩:=au1 ap I q3 w;have ab:∀ (n:Nat),(ents.modify i λe=>{ e with key:=J })[n]?=if n=i then some { e with key:=J } else ents[n]?:=by
        intro n;rw [Array.getElem?_modify];by_cases o:i=n
        ·subst o;simp [M]
        ·rw [if_neg o,if_neg (λh=>o h.symm)]
       have ad:e.born=i:=r8.2 i e M;have ao:PV.mput es (toPV k) ((PV.mget es (toPV k)).getD (toPV (aa1 Γ.P 12 E)))=es:=by
        rw [q6,q4];simp only [Option.getD_some];exact List.ext_getElem? λn=>by
         by_cases o:n=i
         ·subst o;rw [List.getElem?_set_self (A5.1 q1).1,q1]
         ·rw [Ao (by omega)]
       refine ⟨.tuple #[e.val,.int .i64 (i:Int)],{ w with heap:=w.heap.setIfInBounds (μ j) (.map (ents.modify i λe=>{ e with key:=J }) clock) },?_,?_⟩
       ·simp only [Nat.zero_add] at q5;have ar:((ents[i]?).map (·.key)).getD J=e.key:=by rw [M];rfl
        have aq:(Option.map (λx:MapEntry=>(x.born:Int)) ents[i]?).getD 0=(i:Int):=by rw [M];simp [ad]
        simp only [Instr.mapEntry,Sem.run_bind,run_underlying hT,Result.andThen_ok,getObj,Sem.run,r1,acz hd I,adh hd q5,ar,aq,s1,setObj,Sem.run_pure,goInt]
       ·rw [ao,q7];have Z:=hw.setMap hj (w':={ w with heap:=w.heap.setIfInBounds (μ j) (.map (ents.modify i λe=>{ e with key:=J }) clock) }) (ents:=ents.modify i λe=>{ e with key:=J }) (clock:=clock)
         (es':=es) (kc:=kc) (vc:=vc) (by simp [ai]) (by simpa using r4) (λb hb=>by simp [Array.getElem?_setIfInBounds_ne (λe=>hb e.symm)]) (by simp) rfl rfl rfl
        refine (λh3 h4=>by obtain ⟨u1,u2⟩:=Z r5 r6 h3 h4;exact ⟨_,_,_,_,_,Or.inl rfl,u1,u2,am ..⟩) (And.intro (λn f H=>?_) (r7.2.same ?hs)) (r8.same Array.size_modify ?hs)
        ·rw [ab] at H;by_cases o:n=i
         ·subst o;rw [if_pos rfl] at H;cases H;refine ⟨?_,(r7.1 n e M).2⟩;show J=_;rw [<-s2];exact (r7.1 n e M).1
         ·rw [if_neg o] at H;exact r7.1 n f H
        case hs=>
         intro n f H
         rw [ab] at H
         by_cases o:n=i
         ·subst o;rw [if_pos rfl] at H;cases H;exact ⟨e,M,rfl⟩
         ·rw [if_neg o] at H;exact ⟨f,H,rfl⟩
      ·have ag:clock=es.length:=by rw [r8.1,r4]
       refine ⟨.tuple #[z,.int .i64 (clock:Int)],{ w with heap:=w.heap.setIfInBounds (μ j) (.map (ents.push { key:=J,val:=z,born:=clock }) (clock+1)) },?_,?_⟩
       ·simp [Instr.mapEntry,run_underlying hT,getObj,Sem.run,r1,acz hd I,adh hd q2,zeroValue,typeInfo,hi,au,setObj,goInt]
       ·rw [q6,q7,q1];simp only [Option.getD_none];rw [<-ag];have af:∀ n,(ents.push { key:=J,val:=z,born:=clock })[n]?=if n=ents.size then some { key:=J,val:=z,born:=clock } else ents[n]?:=λn=>Array.getElem?_push
        have Z:=hw.setMap hj (w':={ w with heap:=w.heap.setIfInBounds (μ j) (.map (ents.push { key:=J,val:=z,born:=clock }) (clock+1)) }) (ents:=ents.push { key:=J,val:=z,born:=clock }) (clock:=clock+1)
         (es':=es++[(toPV k,toPV (aa1 Γ.P 12 E))]) (kc:=upd kc ents.size J.cells.toList) (vc:=upd vc ents.size z.cells.toList) (by simp [ai]) (by simp [r4]) (λb hb=>by simp [Array.getElem?_setIfInBounds_ne (λe=>hb e.symm)]) (by simp) rfl rfl rfl
        refine (λh1 h2 h3 h4=>by obtain ⟨u1,u2⟩:=Z h1 h2 h3 h4;exact ⟨_,_,_,_,_,Or.inl rfl,u1,u2,am ..⟩) (λn z O=>?_) (λn z O=>?_) (And.intro (λn f H=>?_) (r7.2.push _ rfl)) (r8.push _ rfl)
        ·by_cases o:n<es.length
         ·rw [A3 o] at O;rw [aak _ _ (by omega)];exact r5 n z O
         ·have ae:n=ents.size:=by have:=(A5.1 O).1;simp at this;omega
          subst ae;rw [r4,A7 (Nat.le_refl _)] at O;simp at O;subst O;rw [aah];exact ak
        ·by_cases o:n<es.length
         ·rw [A3 o] at O;rw [aak _ _ (by omega)];exact r6 n z O
         ·have ae:n=ents.size:=by have:=(A5.1 O).1;simp at this;omega
          subst ae;rw [r4,A7 (Nat.le_refl _)] at O;simp at O;subst O;rw [aah];exact av
        ·rw [af] at H;by_cases o:n=ents.size
         ·subst o;rw [if_pos rfl] at H;cases H;rw [aah,aah];exact ⟨aj.symm,ax⟩
         ·rw [if_neg o] at H;rw [aak _ _ o,aak _ _ o];exact r7.1 n f H
    ·simp at h
   ·simp at h
 ·simp at h
theorem amr (hw:WRel Γ D ow μ st w) (T:TypeId) (m s x:SV) (mv sv xv:Value) (v:SV) (st':List BX) (hm:SRep Γ.P D w ow μ st m mv) (hs:SRep Γ.P D w ow μ st s sv) (hx:SRep Γ.P D w ow μ st x xv)
 (h:aby Γ.P T st m s x=.upd true v st'):∃ w',(Instr.entryStore T mv sv xv).run Γ.P w=.ok () w'/\OpRes Γ D ow μ st w (.ok .skip w') v st':=by
 unfold aby at h
 split at h
 ·rename_i K E hT;cases hc:isOf Γ.P E x with
  | false=>rw [hc] at h;simp at h
  | true=>
   rw [hc] at h;simp only [Af] at h;split at h
   ·rename_i j n;split at h
    ·rename_i K' E' es hj;cases M:(Nat.beq K K'&&Nat.beq E E') with
     | false=>rw [M] at h;simp at h
     | true=>
      rw [M] at h;simp only [Aj] at M;have:=Ae M.1;subst this;have:=Ae M.2;subst this;simp only [Af,Ac.upd.injEq] at h;obtain ⟨ab,rfl,rfl⟩:=h;cases hm;cases hs;obtain ⟨i,rfl,af⟩:∃ i:Nat,n=(i:Int)/\i<es.length:=by unfold aab at ab;simp only [Aj,A4] at ab;exact ⟨n.toNat,by omega,by omega⟩
      obtain ⟨ents,clock,kc,vc,r1,r2,r3,r4,r5,r6,r7,r8⟩:=hw.map j K E es hj;have ai:=aa2 hx E hc;have ah:=af7 hx hc;have ag:μ j<w.heap.size:=(hw.owlt _ _ r2).1;have Z:i<ents.size:=by omega
      obtain ⟨e,aa⟩:∃ e,ents[i]?=some e:=⟨_,Array.getElem?_eq_getElem Z⟩;obtain ⟨y,q1⟩:∃ y,es[i]?=some y:=⟨_,Am af⟩;have O:ents.findIdx? (λe=>(e.born:Int)==(i:Int))=some i:=by
       rw [Array.findIdx?_eq_some_iff_getElem];refine ⟨Z,?_,λj' aj=>?_⟩
       ·have:=r8.2 i ents[i] (Array.getElem?_eq_getElem Z);simp [this]
       ·have:=r8.2 j' ents[j'] (Array.getElem?_eq_getElem (by omega));simp [this];omega
      have J:∀ (n:Nat),(ents.modify i λe=>{ e with val:=xv })[n]?=if n=i then some { e with val:=xv } else ents[n]?:=by
       intro n;rw [Array.getElem?_modify];by_cases o:i=n
       ·subst o;simp [aa]
       ·rw [if_neg o,if_neg (λh=>o h.symm)]
      refine ⟨{ w with heap:=w.heap.setIfInBounds (μ j) (.map (ents.modify i λe=>{ e with val:=xv }) clock) },?_,?_⟩
      ·simp only [Instr.entryStore,Sem.run_bind,Result.andThen_ok,getObj,Sem.run,r1,asInt,asIntOf,Sem.run_pure,O,setObj]
      ·have ae:PV.mset es ((i:Int)).toNat (toPV x)=es.set i (y.1,toPV x):=by
        unfold PV.mset;rw [Ai,q1]
       rw [ae];have ad:=hw.setMap hj (w':={ w with heap:=w.heap.setIfInBounds (μ j) (.map (ents.modify i λe=>{ e with val:=xv }) clock) }) (ents:=ents.modify i λe=>{ e with val:=xv }) (clock:=clock)
        (es':=es.set i (y.1,toPV x)) (kc:=kc) (vc:=upd vc i xv.cells.toList) (by simp [ag]) (by simpa using r4) (λb M=>by simp [Array.getElem?_setIfInBounds_ne (λe=>M e.symm)]) (by simp) rfl rfl rfl
       refine (λh1 h2 h3 h4=>by obtain ⟨u1,u2⟩:=ad h1 h2 h3 h4;exact ⟨_,_,_,_,_,Or.inr ⟨rfl,rfl⟩,u1,u2,.undef⟩) (λn z I=>?_) (λn z I=>?_) (And.intro (λn f H=>?_) (r7.2.same ?hs)) (r8.same Array.size_modify ?hs)
       ·by_cases o:n=i
        ·subst o;rw [List.getElem?_set_self (A5.1 q1).1] at I;cases I;exact r5 n y q1
        ·rw [Ao (by omega)] at I;exact r5 n z I
       ·by_cases o:n=i
        ·subst o;rw [List.getElem?_set_self (A5.1 q1).1] at I;cases I;rw [aah];exact ai
        ·rw [Ao (by omega)] at I;rw [aak _ _ o];exact r6 n z I
       ·rw [J] at H;by_cases o:n=i
        ·subst o;rw [if_pos rfl] at H;cases H;exact ⟨(r7.1 n e aa).1,by rw [aah];exact ah.symm⟩
        ·rw [if_neg o] at H;rw [aak _ _ o];exact r7.1 n f H
       case hs=>
        intro n f H
        rw [J] at H
        by_cases o:n=i
        ·subst o;rw [if_pos rfl] at H;cases H;exact ⟨e,aa,rfl⟩
        ·rw [if_neg o] at H;exact ⟨f,H,rfl⟩
    ·simp at h
   ·simp at h
 ·simp at h
end
end Go.Ab
