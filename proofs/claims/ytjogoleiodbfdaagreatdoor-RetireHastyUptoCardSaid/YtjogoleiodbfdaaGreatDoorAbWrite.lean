/- Operations that write. -/
import Derived.Test.YtjogoleiodbfdaaGreatDoorAbMap
set_option linter.unusedVariables false
set_option linter.unusedSimpArgs false
set_option linter.unnecessarySimpa false
namespace Go.Ab
open Go
section
variable {Γ:Ctx}{D:Dom}{ow:Own}{μ:Nat->Nat}{st:List BX}{w:World}
theorem a6y (H:WRel Γ D ow μ st w) (T:TypeId) (s:SV) (h:List Value) (M:h.length=Γ.P.cellsOf T) (Z:SRep Γ.P D w ow μ st s (pack Γ.P T h)) (r:Result Next)
 (O:r=.ok (.value (.pointer (some ⟨w.heap.size,0,none⟩))) (w.alloc (.cells h.toArray T))):OpRes Γ D ow μ st w r (.ref st.length [] T) (st++[.box T s]):=by
 have hD:∀ o,¬D w.heap.size o:=λo d=>by have:=H.dlt _ _ d;omega
 obtain ⟨I,J⟩:=H.newOwn (.cells h.toArray T) (.box T s) (λm=>
  ⟨h,T,by grind [aai,aas],M,by rw [aai,aai],by grind [aai],Z.mono m⟩)
 refine ⟨_,_,_,_,_,Or.inl O,I,J,?_⟩
 have:=SRep.ref (P:=Γ.P) (D:=D) (w:=w.alloc (.cells h.toArray T)) (ow:=upd ow w.heap.size (some st.length)) (μ:=upd μ st.length w.heap.size) (st:=st++[.box T s]) (k:=st.length) (path:=[]) (T:=T) (TB:=T) (v:=s) (off:=0)
  (by grind) rfl
 grind [aai]
theorem ak8 {P:Program}{T:TypeId} (h:ati P T=true):∃ i,P.info? T=some i/\i.zero=some (.agg #[.pointer none,.slice none 0 0]):=by
 unfold ati at h;split at h
 ·rename_i cs o;cases I:P.info? T with
  | none=>grind
  | some i=>
   rw [I] at o;refine ⟨i,rfl,?_⟩;simp only [Aa] at o;rw [o];split at h
   ·rename_i H;have:cs=#[.pointer none,.slice none 0 0]:=by
     grind
    rw [this]
   ·cases h
 ·cases h
theorem atc (O:WRel Γ D ow μ st w) (T:TypeId) {v:SV}{st':List BX} (h:ag1 Γ.P T st=.upd true v st'):∃ u w',(Instr.alloc T true (.tuple #[])).run Γ.P w=.ok u w'/\
 OpRes Γ D ow μ st w (.ok (.value u) w') v st':=by
 unfold ag1 at h
 cases H:ahd Γ.P T with
 | true=>
  rw [H] at h
  simp only [Af,Ac.upd.injEq,true_and] at h
  obtain ⟨rfl,rfl⟩:=h
  simp only [ahd,Aj] at H
  obtain ⟨i,J,I⟩:=ak8 H.2
  have hD:∀ o,¬D w.heap.size o:=λo d=>by have:=O.dlt _ _ d;omega
  obtain ⟨h1,h2⟩:=O.newOwn (.cells #[.pointer none,.slice none 0 0] T) (.bld T []) (λm=>show BldRep _ _ _ _ _ _ _ _ from
   ⟨.pointer none,.slice none 0 0,by grind [aai,aas],Or.inl rfl,by rw [aai,aai],by grind [aai],Or.inl ⟨rfl,rfl⟩⟩)
  refine ⟨.pointer (some ⟨w.heap.size,0,none⟩),w.alloc (.cells #[.pointer none,.slice none 0 0] T),by simp [Instr.alloc,zeroValue,typeInfo,J,I,newVar,newRow,Value.cells],_,_,_,_,_,Or.inl rfl,h1,h2,?_⟩
  have:=SRep.bref (P:=Γ.P) (D:=D) (w:=w.alloc (.cells #[.pointer none,.slice none 0 0] T)) (ow:=upd ow w.heap.size (some st.length)) (μ:=upd μ st.length w.heap.size) (st:=st++[.bld T []]) (k:=st.length) (T:=T) (TB:=T) (bs:=[])
   (by grind)
  grind [aai]
 | false=>
  rw [H] at h
  simp only [Ah] at h
  cases I:aca Γ.P T with
  | false=>grind
  | true=>
   rw [I] at h
   simp only [Af,Ac.upd.injEq,true_and] at h
   obtain ⟨rfl,rfl⟩:=h
   obtain ⟨i,z,J,M,ab,Z,ad,ae,aa⟩:=abt (Γ:=Γ) (D:=D) (ow:=ow) (μ:=μ) (st:=st) (w:=w) I
   refine ⟨_,_,?_,a6y O T _ z.cells.toList (by simpa using Z) (by grind) _ rfl⟩
   simp [Instr.alloc,zeroValue,typeInfo,J,M,newVar,newRow]
theorem azm (I:WRel Γ D ow μ st w) (T:TypeId) (s:SV) (v:Value) (H:SRep Γ.P D w ow μ st s v) (o:ag9 Γ.P T s=true):∃ u w',(Instr.box T v).run Γ.P w=.ok u w'/\
 OpRes Γ D ow μ st w (.ok (.value u) w') (.ref st.length [] T) (st++[.box T s]):=by
 obtain ⟨h,J,M⟩:=afm H o
 refine ⟨_,_,?_,a6y I T s v.cells.toList h (by grind) _ rfl⟩
 simp [Instr.box,newVar,newRow]
theorem aol:∀ (n:Nat) (T:TypeId) (s:SV) (v:Value),SRep Γ.P D w ow μ st s v->alb Γ.P n T s=true->v=.agg #[.pointer none,.slice none 0 0]:=by
 intro n;induction n with
 | zero=>intro T s v _ h;simp [alb] at h
 | succ n ih=>
  intro T s v hs h;unfold alb at h;split at h
  ·rename_i H T' fs hT;simp only [Aj] at h;obtain ⟨h0,h⟩:=h;have:=Ae h0;subst this;cases hs with
   | @agg _ aa _ cs Z hl ho hv hp=>
    rw [hT] at Z;cases Z;split at h
    ·rename_i f x o;simp only [Aj] at h;obtain ⟨⟨⟨I,J⟩,M⟩,O⟩:=h;have I:=Ae I;have J:=Ae J;have hf:H[0]?=some f:=by
      have:H.toList[0]?=some f:=by rw [o];rfl
      simpa using this
     have hx:=hp 0 x f rfl hf;rw [I,Ap,J,<-hl,List.take_length] at hx;have:=ih f.type x _ hx O;simp only [pack,M,A9,Value.agg.injEq] at this;rw [this]
    ·rename_i f g o;simp only [Aj,Bool.not_eq_true'] at h;obtain ⟨⟨⟨⟨⟨⟨I,J⟩,M⟩,O⟩,h5⟩,h6⟩,h7⟩:=h;have M:=Ae M;have O:=Ae O;have h5:=Ae h5;have h6:=Ae h6;have h7:=Ae h7;have hf:H[0]?=some f:=by
      have:H.toList[0]?=some f:=by rw [o];rfl
      simpa using this
     have hg:H[1]?=some g:=by
      have:H.toList[1]?=some g:=by rw [o];rfl
      simpa using this
     have hx:=hp 0 _ f rfl hf;have hy:=hp 1 _ g rfl hg;rw [h7] at hl;match cs,hl with
     | [a,b],_=>simp only [M,h5,Ap,List.take,pack,I,A6,A8,List.headD] at hx;simp only [O,h6,List.drop,List.take,pack,J,A6,A8,List.headD] at hy;cases hx;cases hy;rfl
    ·cases h
  ·cases h
theorem atl (I:WRel Γ D ow μ st w) (T:TypeId) (s:SV) (xv:Value) (Z:SRep Γ.P D w ow μ st s xv) {v:SV}{st':List BX} (h:aq8 Γ.P T s st=.upd true v st'):∃ u w',(Instr.box T xv).run Γ.P w=.ok u w'/\OpRes Γ D ow μ st w (.ok (.value u) w') v st':=by
 unfold aq8 at h;cases H:(ahd Γ.P T&&alb Γ.P 3 T s) with
 | true=>
  rw [H] at h;simp only [Af,Ac.upd.injEq,true_and] at h;obtain ⟨rfl,rfl⟩:=h;simp only [Aj] at H;have hv:=aol 3 T s xv Z H.2;subst hv;have hD:∀ o,¬D w.heap.size o:=λo d=>by have:=I.dlt _ _ d;omega
  obtain ⟨J,M⟩:=I.newOwn (.cells #[.pointer none,.slice none 0 0] T) (.bld T []) (λm=>show BldRep _ _ _ _ _ _ _ _ from
   ⟨.pointer none,.slice none 0 0,by grind [aai,aas],Or.inl rfl,by rw [aai,aai],by grind [aai],Or.inl ⟨rfl,rfl⟩⟩)
  refine ⟨.pointer (some ⟨w.heap.size,0,none⟩),w.alloc (.cells #[.pointer none,.slice none 0 0] T),by simp [Instr.box,newVar,newRow,Value.cells],_,_,_,_,_,Or.inl rfl,J,M,?_⟩;have:=SRep.bref (P:=Γ.P) (D:=D) (w:=w.alloc (.cells #[.pointer none,.slice none 0 0] T)) (ow:=upd ow w.heap.size (some st.length)) (μ:=upd μ st.length w.heap.size) (st:=st++[.bld T []]) (k:=st.length) (T:=T) (TB:=T) (bs:=[])
   (by grind)
  grind [aai]
 | false=>
  rw [H] at h;simp only [Ah] at h;cases O:ag9 Γ.P T s with
  | false=>grind
  | true=>rw [O] at h;simp only [Af,Ac.upd.injEq,true_and] at h;obtain ⟨rfl,rfl⟩:=h;grind [azm]
theorem WRel.setBox (H:WRel Γ D ow μ st w) {k:Nat}{TB:TypeId}{s O:SV} (hk:st[k]?=some (.box TB s)) {w':World}{h:List Value}{T':TypeId}
 (hh:w'.heap[μ k]?=some (.cells h.toArray T' (0,0))) (hl:h.length=Γ.P.cellsOf TB) (ho:∀ b,b≠μ k->w'.heap[b]?=w.heap[b]?) (ad:w'.heap.size=w.heap.size)
 (ai:w'.os=w.os) (ak:w'.tape=w.tape) (aj:w'.output=w.output) (hs:SRep Γ.P D w ow μ st O (pack Γ.P TB h)):
 WRel Γ D ow μ (st.set k (.box TB O)) w'/\Moves D w ow μ st D w' ow μ (st.set k (.box TB O)):=by
 have al:=(Bg.1 hk).1
 obtain ⟨c0,T0,b1,b2,b3,b4,b5⟩:=H.box k TB s hk
 have ne:∀ {j:Nat}{y:BX},st[j]?=some y->j≠k->(st.set k (.box TB O))[j]?=some y:=λe I=>by grind
 have J:(st.set k (.box TB O))[k]?=some (.box TB O):=by grind
 have ag:Keeps D w w':=Keeps.of_heap λb o d=>ho b (λe=>by grind)
 have m:Moves D w ow μ st D w' ow μ (st.set k (.box TB O)):=by
  refine ⟨λ_ _ d=>d,ag,λj T x e=>⟨rfl,?_⟩,λj K E es e=>⟨rfl,?_⟩,λj b e hs=>⟨rfl,b,?_,rfl⟩,λj E g xs e=>?_,λj g e=>?_⟩
  ·grind
  ·grind
  ·by_cases I:j=k
   ·subst I;rw [hk] at e;cases e;exact absurd rfl hs
   ·exact ne e I
  ·by_cases I:j=k
   ·grind
   ·refine ⟨g,xs,ne e I,Nat.le_refl _,λ_=>⟨rfl,λae hc ah=>⟨rfl,ah,ae,(ho _ (λab=>?_)).trans hc,rfl⟩⟩⟩;grind
  grind
 have M:∀ j,j<Γ.np->∃ b,(st.set k (.box TB O))[j]?=some b/\b.kind=Γ.K0 j:=by
  intro j I;obtain ⟨x,hx,p1⟩:=H.par j I;by_cases af:j=k
  ·subst af;rw [hk] at hx;cases hx;exact ⟨_,J,p1⟩
  grind
 refine ⟨⟨λj T x e=>?_,λj K E es e=>?_,λj x e=>?_,λb j o=>?_,λb o d=>by rw [ad];exact H.dlt b o d,ai.trans H.os,ak.trans H.tape,aj.trans H.output,by rw [ad];exact H.hs,λb hb hn=>?_,H.dom0,H.domN,H.owN,by grind,H.mu0,M,λb j y ob e hy o d=>?_,H.keep0.trans m.keeps H.dom0,H.arr0_moves m M⟩,m⟩
 ·by_cases I:j=k
  ·subst I;rw [J] at e;cases e;exact ⟨h,T',hh,hl,b3,b4,hs.mono m⟩
  ·rw [Aq (by omega)] at e;obtain ⟨c,T1,q1,q2,q3,q4,q5⟩:=H.box j T x e;have Z:μ j≠μ k:=λab=>by grind
   exact BoxRep.mono ⟨c,T1,q1,q2,q3,q4,q5⟩ m rfl (ho _ Z) q3 q4
 ·by_cases I:j=k
  ·grind
  ·rw [Aq (by omega)] at e;obtain ⟨ents,clock,kc,vc,q1,q2,q3⟩:=H.map j K E es e;have Z:μ j≠μ k:=λab=>by grind
   exact OMapRep.mono ⟨ents,clock,kc,vc,q1,q2,q3⟩ m.dom m.keeps rfl (ho _ Z) q2 q3.1
 ·by_cases I:j=k
  ·subst I;rw [J] at e;cases e;trivial
  ·rw [Aq (by omega)] at e;refine (H.obj j x e).mono m.dom m.keeps (λ_=>rfl) (λc oc=>⟨ho c (λhb=>?_),oc,λ_ d=>d⟩);grind
 ·have:=H.owlt b j o;grind
 ·by_cases aa:b=μ k
  ·subst aa;have:=H.owN _ _ b3 hb;grind
  ·exact (ho b aa).trans (H.old b hb hn)
 ·by_cases I:j=k
  ·subst I;exact H.lone b j _ ob hk (by simp) o d
  ·rw [Aq (by omega)] at e;exact H.lone b j y ob e hy o d
theorem WRel.setArr (h:WRel Γ D ow μ st w) {k g:Nat}{I:TypeId}{xs xs':List PV} (hk:st[k]?=some (.arr I g xs)) {w':World}{O H:Array Value} (am:w.heap[μ k]?=some (.cells O I (0,0))) (b3:ow (μ k)=some k) (b4:∀ o,¬D (μ k) o)
 (hh:w'.heap[μ k]?=some (.cells H I (0,0))) (ao:H.size=O.size) (hl:xs'.length=xs.length) (ho:∀ b,b≠μ k->w'.heap[b]?=w.heap[b]?) (af:w'.heap.size=w.heap.size)
 (ai:w'.os=w.os) (ak:w'.tape=w.tape) (aj:w'.output=w.output) (hs:xs'.length*Γ.P.cellsOf I<=H.size/\∀ (i:Nat) (x:PV),xs'[i]?=some x->Rep Γ.P D w I x ((H.toList.drop (i*Γ.P.cellsOf I)).take (Γ.P.cellsOf I))):
 WRel Γ D ow μ (st.set k (.arr I g xs')) w'/\Moves D w ow μ st D w' ow μ (st.set k (.arr I g xs')):=by
 have ap:=(Bg.1 hk).1
 have ne:∀ {j:Nat}{y:BX},st[j]?=some y->j≠k->(st.set k (.arr I g xs'))[j]?=some y:=λe J=>by grind
 have M:(st.set k (.arr I g xs'))[k]?=some (.arr I g xs'):=by grind
 have ah:Keeps D w w':=Keeps.of_heap λb o d=>ho b (λe=>by grind)
 have m:Moves D w ow μ st D w' ow μ (st.set k (.arr I g xs')):=by
  refine ⟨λ_ _ d=>d,ah,λj T x e=>⟨rfl,?_⟩,λj K E es e=>⟨rfl,?_⟩,λj b e hs=>⟨rfl,b,?_,rfl⟩,λj E g xs e=>?_,λj g e=>?_⟩
  ·grind
  ·grind
  ·by_cases J:j=k
   ·subst J;rw [hk] at e;cases e;exact absurd rfl hs
   ·exact ne e J
  ·by_cases J:j=k
   ·subst J;rw [hk] at e;cases e;refine ⟨_,_,M,Nat.le_refl _,λ_=>⟨hl,λal an ab=>⟨rfl,ab,H,hh,?_⟩⟩⟩;grind
   ·refine ⟨_,_,ne e J,Nat.le_refl _,λ_=>⟨rfl,λO hc ab=>⟨rfl,ab,O,(ho _ (λae=>?_)).trans hc,rfl⟩⟩⟩;grind
  grind
 have Z:∀ j,j<Γ.np->∃ b,(st.set k (.arr I g xs'))[j]?=some b/\b.kind=Γ.K0 j:=by
  intro j J;obtain ⟨x,hx,p1⟩:=h.par j J;by_cases ag:j=k
  ·subst ag;rw [hk] at hx;cases hx;exact ⟨_,M,p1⟩
  grind
 refine ⟨⟨λj T x e=>?_,λj K E es e=>?_,λj x e=>?_,λb j o=>?_,λb o d=>by rw [af];exact h.dlt b o d,ai.trans h.os,ak.trans h.tape,aj.trans h.output,by rw [af];exact h.hs,λb hb hn=>?_,h.dom0,h.domN,h.owN,by grind,h.mu0,Z,λb j y ob e hy o d=>?_,h.keep0.trans m.keeps h.dom0,h.arr0_moves m Z⟩,m⟩
 ·by_cases J:j=k
  ·grind
  ·rw [Aq (by omega)] at e;obtain ⟨c,T1,q1,q2,q3,q4,q5⟩:=h.box j T x e;have aa:μ j≠μ k:=λae=>by grind
   exact BoxRep.mono ⟨c,T1,q1,q2,q3,q4,q5⟩ m rfl (ho _ aa) q3 q4
 ·by_cases J:j=k
  ·grind
  ·rw [Aq (by omega)] at e;obtain ⟨ents,clock,kc,vc,q1,q2,q3⟩:=h.map j K E es e;have aa:μ j≠μ k:=λae=>by grind
   exact OMapRep.mono ⟨ents,clock,kc,vc,q1,q2,q3⟩ m.dom m.keeps rfl (ho _ aa) q2 q3.1
 ·by_cases J:j=k
  ·subst J;rw [M] at e;cases e;exact Or.inr ⟨H,hh,b3,b4,hs.1,λi x hx=>(hs.2 i x hx).mono m.dom m.keeps⟩
  ·rw [Aq (by omega)] at e;refine (h.obj j x e).mono m.dom m.keeps (λ_=>rfl) (λc oc=>⟨ho c (λhb=>?_),oc,λ_ d=>d⟩);grind
 ·have:=h.owlt b j o;grind
 ·by_cases ad:b=μ k
  ·subst ad;have:=h.owN _ _ b3 hb;grind
  ·exact (ho b ad).trans (h.old b hb hn)
 ·by_cases J:j=k
  ·subst J;exact h.lone b j _ ob hk (by simp) o d
  ·rw [Aq (by omega)] at e;exact h.lone b j y ob e hy o d
theorem ai7 (hw:WRel Γ D ow μ st w) (T:TypeId) (a x:SV) (ad xv:Value) (v:SV) (st':List BX) (ha:SRep Γ.P D w ow μ st a ad) (hx:SRep Γ.P D w ow μ st x xv) (h:ado Γ.P T st a x=.upd true v st'):
 ∃ w',(Instr.storeAt T ad xv).run Γ.P w=.ok () w'/\OpRes Γ D ow μ st w (.ok .skip w') v st':=by
 unfold ado at h
 split at h
 ·rename_i k path T';cases J:(Nat.beq T T'&&ag9 Γ.P T x&&!(Nat.beq (Γ.P.cellsOf T) 0)) with
  | false=>grind
  | true=>
   rw [J] at h;simp only [Aj,Bool.not_eq_true'] at J;have:=Ae J.1.1;subst this;have ah:Γ.P.cellsOf T≠0:=λe=>by simp_all
   simp only [Af] at h;cases ha with
   | @ref _ _ _ TB s off hk hp=>
    rw [hk] at h;simp only at h;cases hg:aho Γ.P TB s path x with
    | none=>grind
    | some s'=>
     rw [hg] at h;simp only [Ac.upd.injEq,true_and] at h;obtain ⟨rfl,rfl⟩:=h;obtain ⟨f1,f2,f3⟩:=afm hx J.1.2;obtain ⟨o,T',b1,b2,b3,b4,b5⟩:=hw.box k TB s hk;obtain ⟨r1,r2⟩:=aj2 path TB s o off T x xv.cells.toList s' b5 b2 hp (by grind) f1 f2 hg;obtain ⟨ao,hi,af⟩:=aa7 ah;have aa:=run_storeCells_at Γ.P (μ k) off T' xv.cells.toList 0 o.toArray w b1 (by simpa using r2) f2;simp only [Nat.add_zero,List.toList_toArray] at aa;have Z:(w.setRow (μ k) (abi o off xv.cells.toList).toArray).heap[μ k]?=some (.cells (abi o off xv.cells.toList).toArray T' (0,0)):=setRow_heap w (μ k) o.toArray _ T' _ b1;obtain ⟨q1,q2⟩:=hw.setBox hk Z (by grind [ab1]) (λb J=>setRow_other w (μ k) b _ J) (by simp) rfl rfl rfl r1;refine ⟨w.setRow (μ k) (abi o off xv.cells.toList).toArray,?_,Go.undef,_,D,ow,μ,Or.inr ⟨rfl,rfl⟩,q1,q2,.undef⟩;have ai:xv.cells.size=Γ.P.cellsOf T:=by simpa using f1
     simp only [Instr.storeAt,Instr.sureAddr,Sem.run_bind,Sem.run_pure,Result.andThen_ok,storeVar,aa5 hi af,ai,ne_eq,not_true_eq_false,A8];exact aa
 ·rename_i k i E;cases J:(Nat.beq T E&&isOf Γ.P E x&&aa4 Γ.P E) with
  | false=>grind
  | true=>
   rw [J] at h;simp only [Af] at h;simp only [Aj,aa4,Bool.not_eq_true',Bd] at J;obtain ⟨⟨e1,e2⟩,⟨e3,e4⟩,e5⟩:=J;have:=Ae e1;subst this;have ah:Γ.P.cellsOf T≠0:=λe=>by simp_all
   cases ha with
   | @eref _ _ n _ TB s hk hT hi=>
    rw [hk] at h;split at h;case h_2=>cases h
    rename_i aC ap pv he;cases he;cases hc:(Nat.beq TB ap&&aq3 Γ.P TB T) with
    | false=>grind
    | true=>
     rw [hc] at h;simp only [Af,Ac.upd.injEq,true_and] at h;obtain ⟨rfl,rfl⟩:=h;simp only [Aj] at hc;have:=Ae hc.1;subst this;have aw:Γ.P.cellsOf TB=n*Γ.P.cellsOf T:=by have:=hc.2;unfold aq3 at this;simp_all
     obtain ⟨o,T',b1,b2,b3,b4,b5⟩:=hw.box k TB _ hk;obtain ⟨a1,a2,a3,a4,a5⟩:=al8 hT b5 b2;have ab:=aba hx T e2;have O:xv.cells.toList.length=Γ.P.cellsOf T:=by
      cases al:aal Γ.P T with
      | true=>exact ab.aggLen al
      | false=>
       rcases e5 with h' | h'
       ·grind
       ·obtain ⟨u,hu⟩:=ab.single al;grind [Nat.eq_of_beq_eq_true]
     have ag:(i+1)*Γ.P.cellsOf T<=n*Γ.P.cellsOf T:=Aw _ (by omega);rw [Nat.add_mul] at ag;have M:i*Γ.P.cellsOf T+xv.cells.toList.length<=o.length:=by omega
     obtain ⟨ao,ae,af⟩:=aa7 ah;have aa:=run_storeCells_at Γ.P (μ k) (i*Γ.P.cellsOf T) T' xv.cells.toList 0 o.toArray w b1 (by simpa using M) ab.oneCell;simp only [Nat.add_zero,List.toList_toArray] at aa;have Z:(w.setRow (μ k) (abi o (i*Γ.P.cellsOf T) xv.cells.toList).toArray).heap[μ k]?=some (.cells (abi o (i*Γ.P.cellsOf T) xv.cells.toList).toArray T' (0,0)):=setRow_heap w (μ k) o.toArray _ T' _ b1;have am:aal Γ.P TB=true:=by simp [aal,hT]
     have r1:SRep Γ.P D w ow μ st (.data TB (.agg (pv.parts.set i (toPV x)))) (pack Γ.P TB (abi o (i*Γ.P.cellsOf T) xv.cells.toList)):=by
      simp only [pack,am,A9];refine .data am (.arr hT (by grind [ab1]) (λc H=>?_) (by simpa using a2) (λm y hm=>?_))
      ·unfold abi at H;simp only [Bo] at H;rcases H with (H | H) | H
       ·grind
       ·exact ab.oneCell c H
       grind
      ·by_cases ak:m=i
       ·grind [List.getElem?_set_self,ans]
       ·rw [Aq (by omega)] at hm;rw [ad1 M]
        ·exact a5 m y hm
        ·rw [O];rcases Nat.lt_or_gt_of_ne ak with h' | h'
         ·have:(m+1)*Γ.P.cellsOf T<=i*Γ.P.cellsOf T:=Aw _ (by omega);grind
         ·have:(i+1)*Γ.P.cellsOf T<=m*Γ.P.cellsOf T:=Aw _ (by omega);grind
     obtain ⟨q1,q2⟩:=hw.setBox hk Z (by grind [ab1]) (λb J=>setRow_other w (μ k) b _ J) (by simp) rfl rfl rfl r1;refine ⟨w.setRow (μ k) (abi o (i*Γ.P.cellsOf T) xv.cells.toList).toArray,?_,Go.undef,_,D,ow,μ,Or.inr ⟨rfl,rfl⟩,q1,q2,.undef⟩;have ai:xv.cells.size=Γ.P.cellsOf T:=by simpa using O
     simp only [Instr.storeAt,Instr.sureAddr,Sem.run_bind,Sem.run_pure,Result.andThen_ok,storeVar,aa5 ae af,ai,ne_eq,not_true_eq_false,A8];exact aa
 ·rename_i k g i E path T';cases J:(Nat.beq T T'&&aa4 Γ.P E&&ag9 Γ.P T x&&!(Nat.beq (Γ.P.cellsOf T) 0)) with
  | false=>grind
  | true=>
   rw [J] at h;simp only [Af] at h;simp only [Aj,aa4,Bool.not_eq_true',Bd] at J;obtain ⟨⟨⟨ar,⟨aD,aE⟩,au⟩,av⟩,aF⟩:=J;have:=Ae ar;subst this;have ah:Γ.P.cellsOf T≠0:=λe=>by simp_all
   split at h;case h_2=>cases h
   rename_i xs aq;have aj:=adr aq;split at h;case h_2=>cases h
   rename_i y hg;cases hy:isOf Γ.P E y with
   | false=>grind
   | true=>
   rw [hy] at h;simp only [Af,Ac.upd.injEq,true_and] at h;obtain ⟨rfl,rfl⟩:=h;cases ha with
   | arefOld hk hg=>grind
   | @aref _ _ _ off _ _ _ aI I hk hi hp hc ho=>
    rw [aj] at hk;cases hk;obtain ⟨a1,a2,a3⟩:=avo hw aj hi hc;obtain ⟨f1,f2,f3⟩:=afm hx av;have ag:=a1;rw [Nat.add_mul] at ag;have O:((I.toList.drop (i*Γ.P.cellsOf E)).take (Γ.P.cellsOf E)).length=Γ.P.cellsOf E:=by simp;omega
    obtain ⟨r1,r2⟩:=aj2 path E _ _ off T x xv.cells.toList y (a3.ofPV (ow:=ow) (μ:=μ) (st:=st)) O hp (by grind) f1 f2 hg;rw [O] at r2;obtain ⟨ao,ae,af⟩:=aa7 ah;have M:i*Γ.P.cellsOf E+off+xv.cells.toList.length<=I.toList.length:=by grind
    have aa:=run_storeCells_at Γ.P (μ k) (i*Γ.P.cellsOf E+off) E xv.cells.toList 0 I w hc (by simpa using M) f2;simp only [Nat.add_zero,List.toList_toArray] at aa;have Z:(w.setRow (μ k) (abi I.toList (i*Γ.P.cellsOf E+off) xv.cells.toList).toArray).heap[μ k]?=some (.cells (abi I.toList (i*Γ.P.cellsOf E+off) xv.cells.toList).toArray E (0,0)):=setRow_heap w (μ k) I _ E _ hc;have aH:=aba r1 E hy;have az:xs.length*Γ.P.cellsOf E<=I.size/\∀ (j:Nat) (z:PV),xs[j]?=some z->Rep Γ.P D w E z ((I.toList.drop (j*Γ.P.cellsOf E)).take (Γ.P.cellsOf E)):=by rcases hw.obj k _ aj with h0 | ⟨aB,q1,q2,q3,q4,q5⟩;all_goals grind
    have aA:(abi I.toList (i*Γ.P.cellsOf E+off) xv.cells.toList).toArray.size=I.size:=by grind [ab1]
    have ax:∀ (m:Nat) (z:PV),(xs.set i (toPV y))[m]?=some z->Rep Γ.P D w E z ((((abi I.toList (i*Γ.P.cellsOf E+off) xv.cells.toList).toArray).toList.drop (m*Γ.P.cellsOf E)).take (Γ.P.cellsOf E)):=by
     intro m z hm;have an:off+xv.cells.toList.length<=Γ.P.cellsOf E:=by simpa using r2
     by_cases ak:m=i
     ·subst ak;rw [List.getElem?_set_self hi] at hm;cases hm;simp only;rw [aj4 (by simp;omega) an];have aG:(pack Γ.P E (abi ((I.toList.drop (m*Γ.P.cellsOf E)).take (Γ.P.cellsOf E)) off xv.cells.toList)).cells.toList=abi ((I.toList.drop (m*Γ.P.cellsOf E)).take (Γ.P.cellsOf E)) off xv.cells.toList:=by
       have ay:(abi ((I.toList.drop (m*Γ.P.cellsOf E)).take (Γ.P.cellsOf E)) off xv.cells.toList).length=Γ.P.cellsOf E:=by grind [ab1]
       refine aow (au.imp id (λh=>ay.trans (Ae h))) (λc H=>?_);unfold abi at H;simp only [Bo] at H;rcases H with (H | H) | H
       ·exact a3.oneCell c (List.mem_of_mem_take H)
       ·exact f2 c H
       ·exact a3.oneCell c (List.mem_of_mem_drop H)
      grind
     ·rw [Aq (by omega)] at hm;simp only;rw [ad1 M]
      ·grind
      ·rcases Nat.lt_or_gt_of_ne ak with h' | h'
       ·have:(m+1)*Γ.P.cellsOf E<=i*Γ.P.cellsOf E:=Aw _ (by omega);grind
       ·have:(i+1)*Γ.P.cellsOf E<=m*Γ.P.cellsOf E:=Aw _ (by omega);grind
    obtain ⟨q1,q2⟩:=hw.setArr (xs':=xs.set i (toPV y)) aj hc ho a2 Z aA (by simp) (λb J=>setRow_other w (μ k) b _ J) (by simp) rfl rfl rfl ⟨by grind,ax⟩;refine ⟨w.setRow (μ k) (abi I.toList (i*Γ.P.cellsOf E+off) xv.cells.toList).toArray,?_,Go.undef,_,D,ow,μ,Or.inr ⟨rfl,rfl⟩,q1,q2,.undef⟩;have ai:xv.cells.size=Γ.P.cellsOf T:=by simpa using f1
    simp only [Instr.storeAt,Instr.sureAddr,Sem.run_bind,Sem.run_pure,Result.andThen_ok,storeVar,aa5 ae af,ai,ne_eq,not_true_eq_false,A8];exact aa
 ·simp at h
theorem aqr (O:WRel Γ D ow μ st w) (T:TypeId) (a x:SV) (I xv:Value) (v:SV) (st':List BX) (Z:SRep Γ.P D w ow μ st a I) (hx:SRep Γ.P D w ow μ st x xv) (h:ad6 Γ.P T st a x=.upd true v st'):∃ w',(Instr.storeAt T I xv).run Γ.P w=.ok () w'/\OpRes Γ D ow μ st w (.ok .skip w') v st':=by
 unfold ad6 at h;split at h
 ·split at h
  ·rename_i k g i E p T0 T1 j hj;split at h
   ·rename_i E1 g1 aj hk;cases hb:Nat.beq j k with
    | true=>rw [hb] at h;cases h
    | false=>
     rw [hb] at h;simp only [Ah] at h;obtain ⟨h1,H⟩:=O.freezeRow hk;have ag:=aki (fz:=[j]) O hx (λk' J=>by rw [hj] at J;exact J);have m2:Moves (adp D ow μ st [j]) w ow μ st (adp D ow μ st [j]) w (aov ow j) μ (st.set j (.arr E1 (g1+1) [])):=⟨λ_ _ d=>d,Keeps.refl _ _,H.box,H.map,H.obj,H.arr,λk' g' e=>by obtain ⟨g2,e2,aa,hs⟩:=H.acc k' g' e;refine ⟨g2,e2,aa,λeq b ob=>?_⟩;obtain ⟨r1,r2,r3⟩:=hs eq b ob;exact ⟨r1,r2,λo d=>d⟩⟩
     obtain ⟨w',M,u,w2,D2,ah,ai,hr,af,ab,ae⟩:=ai7 h1 T _ _ I xv v st' (Z.mono H) (ag.mono m2) h;exact ⟨w',M,u,w2,D2,ah,ai,hr,af,H.trans ab,ae⟩
   ·cases h
  ·exact ai7 O T _ _ I xv v st' Z hx h
 ·exact ai7 O T _ _ I xv v st' Z hx h
theorem aqa (H:WRel Γ D ow μ st w) (T K E:TypeId):∃ u w',(Instr.makeMap T none).run Γ.P w=.ok u w'/\OpRes Γ D ow μ st w (.ok (.value u) w') (.mref st.length) (st++[.map K E []]):=by
 have M:∀ o,¬D w.heap.size o:=λo d=>by have:=H.dlt _ _ d;omega
 obtain ⟨I,J⟩:=H.newOwn (.map #[] 0) (.map K E []) (λm=>
  ⟨#[],0,λ_=>[],λ_=>[],by rw [aai];exact aas _ _,by rw [aai,aai],by rw [aai];exact M,rfl,λi x h=>by simp at h,λi x h=>by simp at h,⟨λi e O=>by simp at O,BornOk.nil⟩,AtIdx.nil⟩)
 refine ⟨.map (some w.heap.size),w.alloc (.map #[] 0),by simp [Instr.makeMap],_,_,_,_,_,Or.inl rfl,I,J,?_⟩;have:=SRep.mref (P:=Γ.P) (D:=D) (w:=w.alloc (.map #[] 0)) (ow:=upd ow w.heap.size (some st.length)) (μ:=upd μ st.length w.heap.size) (st:=st++[.map K E []]) (k:=st.length) (K:=K) (E:=E) (es:=[])
  (by rw [A3 (Nat.le_refl _)];simp)
 rwa [aai] at this
theorem azy (hw:WRel Γ D ow μ st w) {η:Operand->Value}{ρ:Operand->SV} (Z:∀ x,SRep Γ.P D w ow μ st (ρ x) (η x)) (o:Oper) {k:Nat}{v:SV}{b:BX}{st':List BX} (h:extV Γ.P o.op ρ k=some (v,b)) (O:apd Γ.np st k b st'):
 OpRes Γ D ow μ st w ((execOp η o).run Γ.P w) v st':=by
 have hD:∀ o,¬D w.heap.size o:=λo d=>by have:=hw.dlt _ _ d;omega
 have aa:∀ T,b=.bld T []->v=.bref k T->∀ r:Result Next,r=.ok (.value (.pointer (some ⟨w.heap.size,0,none⟩))) (w.alloc (.cells #[.pointer none,.slice none 0 0] T))->OpRes Γ D ow μ st w r v st':=by
  intro T J hv r hr;subst J;subst hv;obtain ⟨h0,M,h2⟩:=hw.newOwnAt (.cells #[.pointer none,.slice none 0 0] T) (.bld T []) (λm=>show BldRep _ _ _ _ _ _ _ _ from
   ⟨.pointer none,.slice none 0 0,by rw [aai];exact aas _ _,Or.inl rfl,by rw [aai,aai],by rw [aai];exact hD,Or.inl ⟨rfl,rfl⟩⟩) O
  refine ⟨_,_,_,_,_,Or.inl hr,M,h2,?_⟩;have:=SRep.bref (P:=Γ.P) (D:=D) (w:=w.alloc (.cells #[.pointer none,.slice none 0 0] T)) (ow:=upd ow w.heap.size (some k)) (μ:=upd μ k w.heap.size) (k:=k) (T:=T) (TB:=T) (bs:=[]) h0;rwa [aai] at this
 have ab:∀ T s,b=.box T s->v=.ref k [] T->∀ (H:List Value),H.length=Γ.P.cellsOf T->SRep Γ.P D w ow μ st s (pack Γ.P T H)->∀ r:Result Next,r=.ok (.value (.pointer (some ⟨w.heap.size,0,none⟩))) (w.alloc (.cells H.toArray T))->OpRes Γ D ow μ st w r v st':=by
  intro T s J hv H hl hs r hr;subst J;subst hv;obtain ⟨h0,M,h2⟩:=hw.newOwnAt (.cells H.toArray T) (.box T s) (λm=>
   ⟨H,T,by rw [aai];exact aas _ _,hl,by rw [aai,aai],by rw [aai];exact hD,hs.mono m⟩) O
  refine ⟨_,_,_,_,_,Or.inl hr,M,h2,?_⟩;have:=SRep.ref (P:=Γ.P) (D:=D) (w:=w.alloc (.cells H.toArray T)) (ow:=upd ow w.heap.size (some k)) (μ:=upd μ k w.heap.size) (k:=k) (path:=[]) (T:=T) (TB:=T) (v:=s) (off:=0) h0 rfl;rwa [aai] at this
 unfold extV at h
 split at h
 ·rename_i T I;cases J:ahd Γ.P T with
  | true=>rw [J] at h;simp only [Af,Al,Prod.mk.injEq] at h;simp only [ahd,Aj] at J;obtain ⟨i,hi,hz⟩:=ak8 J.2;exact aa T h.2.symm h.1.symm _ (by simp [execOp,I,Instr.alloc,zeroValue,typeInfo,hi,hz,newVar,newRow,Value.cells])
  | false=>
   rw [J] at h;simp only [Ah] at h;cases hz:aca Γ.P T with
   | false=>rw [hz] at h;cases h
   | true=>rw [hz] at h;simp only [Af,Al,Prod.mk.injEq] at h;obtain ⟨i,z,hi,ad,ai,ag,ae,af,ah⟩:=abt (Γ:=Γ) (D:=D) (ow:=ow) (μ:=μ) (st:=st) (w:=w) hz;exact ab T _ h.2.symm h.1.symm z.cells.toList (by simpa using ag) (by rw [<-ae];exact af) _ (by simp [execOp,I,Instr.alloc,zeroValue,typeInfo,hi,ad,newVar,newRow])
 ·rename_i T x I;cases J:(ahd Γ.P T&&alb Γ.P 3 T (ρ x)) with
  | true=>rw [J] at h;simp only [Af,Al,Prod.mk.injEq] at h;simp only [Aj] at J;have hv:=aol 3 T _ _ (Z x) J.2;exact aa T h.2.symm h.1.symm _ (by simp [execOp,I,hv,Instr.box,newVar,newRow,Value.cells])
  | false=>
   rw [J] at h;simp only [Ah] at h;cases hf:ag9 Γ.P T (ρ x) with
   | false=>rw [hf] at h;cases h
   | true=>rw [hf] at h;simp only [Af,Al,Prod.mk.injEq] at h;obtain ⟨M,h2,h3⟩:=afm (Z x) hf;exact ab T _ h.2.symm h.1.symm (η x).cells.toList M (by rw [h3];exact Z x) _ (by simp [execOp,I,Instr.box,newVar,newRow])
 ·rename_i T r I;split at h
  ·rename_i K E hT;simp only [Al,Prod.mk.injEq] at h;obtain ⟨rfl,rfl⟩:=h;obtain ⟨h0,M,h2⟩:=hw.newOwnAt (.map #[] 0) (.map K E []) (λm=>
    ⟨#[],0,λ_=>[],λ_=>[],by rw [aai];exact aas _ _,by rw [aai,aai],by rw [aai];exact hD,rfl,λi x hx=>by simp at hx,λi x hx=>by simp at hx,⟨λi e he=>by simp at he,BornOk.nil⟩,AtIdx.nil⟩) O
   refine ⟨.map (some w.heap.size),w.alloc (.map #[] 0),_,_,_,Or.inl (by simp [execOp,I,Instr.makeMap]),M,h2,?_⟩;have:=SRep.mref (P:=Γ.P) (D:=D) (w:=w.alloc (.map #[] 0)) (ow:=upd ow w.heap.size (some k)) (μ:=upd μ k w.heap.size) (k:=k) (K:=K) (E:=E) (es:=[]) h0;rwa [aai] at this
  ·cases h
 ·cases h
theorem WRel.setMap (H:WRel Γ D ow μ st w) {k:Nat}{K E:TypeId}{es es':List (PV×PV)} (O:st[k]?=some (.map K E es)) {w':World}{ents:Array MapEntry}{clock:Nat}{kc vc:Nat->List Value}
 (hh:w'.heap[μ k]?=some (.map ents clock)) (hl:ents.size=es'.length) (ho:∀ b,b≠μ k->w'.heap[b]?=w.heap[b]?) (ae:w'.heap.size=w.heap.size)
 (am:w'.os=w.os) (ao:w'.tape=w.tape) (an:w'.output=w.output)
 (h1:∀ (i:Nat) (x:PV×PV),es'[i]?=some x->Rep Γ.P D w K x.1 (kc i)) (h2:∀ (i:Nat) (x:PV×PV),es'[i]?=some x->Rep Γ.P D w E x.2 (vc i))
 (h3:avi Γ.P K E kc vc ents clock) (h4:AtIdx ents clock):
 WRel Γ D ow μ (st.set k (.map K E es')) w'/\Moves D w ow μ st D w' ow μ (st.set k (.map K E es')):=by
 have al:=(Bg.1 O).1
 obtain ⟨aj,ah,ar,au,b1,b3,b4,_⟩:=H.map k K E es O
 have ne:∀ {j:Nat}{y:BX},st[j]?=some y->j≠k->(st.set k (.map K E es'))[j]?=some y:=λe h=>by rw [Aq (by omega)];exact e
 have I:(st.set k (.map K E es'))[k]?=some (.map K E es'):=by rw [List.getElem?_set_self al]
 have ak:Keeps D w w':=Keeps.of_heap λb o d=>ho b (λe=>by subst e;exact b4 o d)
 have m:Moves D w ow μ st D w' ow μ (st.set k (.map K E es')):=by
  refine ⟨λ_ _ d=>d,ak,λj T x e=>⟨rfl,?_⟩,λj K E es e=>⟨rfl,?_⟩,λj b e hs=>⟨rfl,b,?_,rfl⟩,λj E g xs e=>?_,λj g e=>?_⟩
  ·by_cases h:j=k
   ·subst h;rw [O] at e;cases e
   ·exact ⟨_,ne e h⟩
  ·by_cases h:j=k
   ·subst h;rw [O] at e;cases e;exact ⟨_,I⟩
   ·exact ⟨_,ne e h⟩
  ·by_cases h:j=k
   ·subst h;rw [O] at e;cases e;exact absurd rfl hs
   ·exact ne e h
  ·by_cases h:j=k
   ·subst h;rw [O] at e;cases e
   ·refine ⟨g,xs,ne e h,Nat.le_refl _,λ_=>⟨rfl,λai hc ad=>⟨rfl,ad,ai,(ho _ (λJ=>?_)).trans hc,rfl⟩⟩⟩;rw [J,b3] at ad;cases ad;exact h rfl
  ·by_cases h:j=k
   ·subst h;rw [O] at e;cases e
   ·refine ⟨g,ne e h,Nat.le_refl _,λ_ b ob=>⟨ho b (λhb=>?_),ob,λ_ d=>d⟩⟩;subst hb;rw [b3] at ob;cases ob;exact h rfl
 have Z:∀ j,j<Γ.np->∃ b,(st.set k (.map K E es'))[j]?=some b/\b.kind=Γ.K0 j:=by
  intro j h;obtain ⟨x,hx,p1⟩:=H.par j h;by_cases ag:j=k
  ·subst ag;rw [O] at hx;cases hx;exact ⟨_,I,p1⟩
  ·exact ⟨x,ne hx ag,p1⟩
 refine ⟨⟨λj T x e=>?_,λj K E es e=>?_,λj x e=>?_,λb j o=>?_,λb o d=>by rw [ae];exact H.dlt b o d,am.trans H.os,ao.trans H.tape,an.trans H.output,by rw [ae];exact H.hs,λb hb hn=>?_,H.dom0,H.domN,H.owN,by simpa using H.np,H.mu0,Z,λb j y ob e hy o d=>?_,H.keep0.trans m.keeps H.dom0,H.arr0_moves m Z⟩,m⟩
 ·by_cases h:j=k
  ·subst h;rw [I] at e;cases e
  ·rw [Aq (by omega)] at e;obtain ⟨c,T1,q1,q2,q3,q4,q5⟩:=H.box j T x e;have ab:μ j≠μ k:=λJ=>by rw [J,b3] at q3;cases q3;exact h rfl
   exact BoxRep.mono ⟨c,T1,q1,q2,q3,q4,q5⟩ m rfl (ho _ ab) q3 q4
 ·by_cases h:j=k
  ·subst h;rw [I] at e;cases e;exact ⟨ents,clock,kc,vc,hh,b3,b4,hl,λi x a=>(h1 i x a).mono m.dom m.keeps,λi x a=>(h2 i x a).mono m.dom m.keeps,h3,h4⟩
  ·rw [Aq (by omega)] at e;obtain ⟨aa,M,ap,aq,q1,q2,q3⟩:=H.map j _ _ _ e;have ab:μ j≠μ k:=λJ=>by rw [J,b3] at q2;cases q2;exact h rfl
   exact OMapRep.mono ⟨aa,M,ap,aq,q1,q2,q3⟩ m.dom m.keeps rfl (ho _ ab) q2 q3.1
 ·by_cases h:j=k
  ·subst h;rw [I] at e;cases e;trivial
  ·rw [Aq (by omega)] at e;refine (H.obj j x e).mono m.dom m.keeps (λ_=>rfl) (λc oc=>⟨ho c (λhb=>?_),oc,λ_ d=>d⟩);subst hb;rw [b3] at oc;cases oc;exact h rfl
 ·have:=H.owlt b j o;rw [ae];simpa using this
 ·by_cases af:b=μ k
  ·subst af;have:=H.owN _ _ b3 hb;rw [hn] at this;cases this
  ·exact (ho b af).trans (H.old b hb hn)
 ·by_cases h:j=k
  ·subst h;exact H.lone b j _ ob O (by simp) o d
  ·rw [Aq (by omega)] at e;exact H.lone b j y ob e hy o d
theorem awd {d:TypeDesc}{x y:PV}{a b:Value} (J:Key1 d x a) (H:Key1 d y b) (h:ad7 y x=true):a=b:=by
 cases J with
 | str s o=>subst o;cases H with
  | str t _=>simp [ad7] at h;subst h;rfl
  | int _ _ h=>cases h
  | bool _ h=>cases h
 | int k n o=>subst o;cases H with
  | int M m I=>cases I;simp [ad7] at h;subst h;rfl
  | str _ h=>cases h
  | bool _ h=>cases h
 | bool p o=>subst o;cases H with
  | bool q _=>simp [ad7] at h;subst h;rfl
  | int _ _ h=>cases h
  | str _ h=>cases h
theorem ar2 {d:TypeDesc}{x:PV}{a:Value} (h:Key1 d x a) (n:Nat):Instr.sameBits n a a=true:=by cases h<;>simp [Instr.sameBits,avs]
theorem a0t {P:Program}:∀ {n:Nat}{J:List Field}{xs:List PV}{cs:List Value},KeysL P n J xs cs->∀ {ys:List PV}{es:List Value},KeysL P n J ys es->amu ys xs=true->cs=es:=by
 intro n J xs cs h;induction h with
 | nil n=>intro ys es o _;cases o;rfl
 | @cons n f d fs x xs a cs ho hn Z hk _ ih=>
  intro ys es o I;cases o with
  | @cons _ _ d' _ y ys b es ab aa H O o=>
   rw [Z] at H;cases H;simp only [amu] at I;cases M:ad7 y x with
   | false=>rw [M] at I;cases I
   | true=>rw [M] at I;rw [awd hk O M,ih o I]
theorem axz {P:Program} (m:Nat):∀ {n:Nat}{o:List Field}{xs:List PV}{cs:List Value},KeysL P n o xs cs->(cs.zip cs).all (λ(x,y)=>Instr.sameBits m x y)=true:=by
 intro n o xs cs h;induction h with
 | nil n=>rfl
 | cons O M J H _ I=>simp only [List.zip_cons_cons,Bk,ar2 H,Bool.true_and];exact I
theorem aso {P:Program}{K:TypeId}{d:TypeDesc}{x y:PV}{a b:Value} (O:KeyIs P K d x a) (Z:KeyIs P K d y b) (h:ajk y x=true) (w:World):(Instr.keyThatStays a b).run P w=.ok b w/\a=b:=by
 have no:∀ {I:Array Field}{x:PV}{a:Value},Key1 (.struct I) x a->False:=λh=>by cases h<;>rename_i h<;>cases h
 have e:a=b:=by
  cases O with
  | one o=>
   cases Z with
   | one H=>
    have e1:ajk y x=ad7 y x:=by cases H<;>rfl
    rw [e1] at h;exact awd o H h
   | agg I _ _ H=>subst H;exact absurd o (λh=>no h)
  | agg I xs cs o H J=>
   subst o;cases Z with
   | one M=>exact absurd M (λh=>no h)
   | agg aa ys es M h5 h6=>cases M;rw [a0t J h6 h]
 subst e;refine ⟨?_,rfl⟩;have hb:Instr.sameBits 10000 a a=true:=by
  cases O with
  | one o=>exact ar2 o _
  | agg I xs cs o H J=>have:=axz 9999 J;simp only [Instr.sameBits,List.toList_toArray,Br,Bool.true_and];exact this
 simp [Instr.keyThatStays,hb]
theorem ahi (hw:WRel Γ D ow μ st w) (T:TypeId) (m k x:SV) (mv M xv:Value) (v:SV) (st':List BX) (hm:SRep Γ.P D w ow μ st m mv) (hk:SRep Γ.P D w ow μ st k M) (hx:SRep Γ.P D w ow μ st x xv)
 (h:abr Γ.P T st m k x=.upd true v st'):∃ w',(Instr.mapUpdate T mv M xv).run Γ.P w=.ok () w'/\OpRes Γ D ow μ st w (.ok .skip w') v st':=by
 unfold abr at h
 split at h
 ·rename_i K E hT;cases hc:(keyT Γ.P K&&isOf Γ.P K k&&isOf Γ.P E x) with
  | false=>rw [hc] at h;simp at h
  | true=>
   rw [hc] at h;simp only [Af] at h;simp only [Aj] at hc;obtain ⟨⟨c1,c2⟩,c3⟩:=hc;split at h
   ·rename_i j;split at h
    ·rename_i K' E' es hj;cases Z:(Nat.beq K K'&&Nat.beq E E') with
     | false=>rw [Z] at h;simp at h
     | true=>
      rw [Z] at h;simp only [Aj] at Z;have:=Ae Z.1;subst this;have:=Ae Z.2;subst this;simp only [Af,Ac.upd.injEq,true_and] at h;obtain ⟨rfl,rfl⟩:=h;cases hm;obtain ⟨ents,clock,kc,vc,r1,r2,r3,r4,r5,r6,r7,r8⟩:=hw.map j K E es hj;have ak:=aba hk K c2;have ai:=afp hk c2;have al:=aba hx E c3;have aj:=afp hx c3;obtain ⟨d,hd,J⟩:=agb c1 ak;rw [ai] at J;have ab:∀ (i:Nat) (e:MapEntry) (y:PV×PV),ents.toList[i]?=some e->es[i]?=some y->KeyIs Γ.P K d y.1 e.key:=by intro i e y he hy;obtain ⟨d',ag,ao⟩:=agb c1 (r5 i y hy);rw [hd] at ag;cases ag;rw [(r7.1 i e (by simpa using he)).1];exact ao
      have ah:μ j<w.heap.size:=(hw.owlt _ _ r2).1;rcases akg hd J ents.toList es 0 (by simpa using r4) ab with ⟨i,y,e,q1,q2,q3,q4,q5,q6,_⟩ | ⟨q1,q2,q6,_⟩
      ·have aa:ents[i]?=some e:=by simpa using q2
       have am:=ab i e y q2 q1;obtain ⟨s1,s2⟩:=aso am J q3 w;have ad:∀ (n:Nat),(ents.modify i λe=>{ e with key:=M,val:=xv })[n]?=if n=i then some { e with key:=M,val:=xv } else ents[n]?:=by
        intro n;rw [Array.getElem?_modify];by_cases o:i=n
        ·subst o;simp [aa]
        ·rw [if_neg o,if_neg (λh=>o h.symm)]
       refine ⟨{ w with heap:=w.heap.setIfInBounds (μ j) (.map (ents.modify i λe=>{ e with key:=M,val:=xv }) clock) },?_,?_⟩
       ·simp only [Nat.zero_add] at q5;have an:((ents[i]?).map (·.key)).getD M=e.key:=by rw [aa];rfl
        simp only [Instr.mapUpdate,Sem.run_bind,run_underlying hT,Result.andThen_ok,getObj,Sem.run,r1,acw hd J,ada hd q5,an,s1,setObj]
       ·rw [q6];have O:=hw.setMap hj (w':={ w with heap:=w.heap.setIfInBounds (μ j) (.map (ents.modify i λe=>{ e with key:=M,val:=xv }) clock) }) (ents:=ents.modify i λe=>{ e with key:=M,val:=xv }) (clock:=clock)
         (es':=es.set i (y.1,toPV x)) (kc:=kc) (vc:=upd vc i xv.cells.toList) (by simp [ah]) (by simpa using r4) (λb Z=>by simp [Array.getElem?_setIfInBounds_ne (λe=>Z e.symm)]) (by simp) rfl rfl rfl
        refine (λh1 h2 h3 h4=>by obtain ⟨u1,u2⟩:=O h1 h2 h3 h4;exact ⟨_,_,_,_,_,Or.inr ⟨rfl,rfl⟩,u1,u2,.undef⟩) (λn z H=>?_) (λn z H=>?_) (And.intro (λn f I=>?_) (r7.2.same ?hs)) (r8.same Array.size_modify ?hs)
        ·by_cases o:n=i
         ·subst o;rw [List.getElem?_set_self (Bg.1 q1).1] at H;cases H;exact r5 n y q1
         ·rw [Aq (by omega)] at H;exact r5 n z H
        ·by_cases o:n=i
         ·subst o;rw [List.getElem?_set_self (Bg.1 q1).1] at H;cases H;rw [aai];exact al
         ·rw [Aq (by omega)] at H;rw [aam _ _ o];exact r6 n z H
        ·rw [ad] at I;by_cases o:n=i
         ·subst o;rw [if_pos rfl] at I;cases I;refine ⟨?_,by rw [aai];exact aj.symm⟩;show M=_;rw [<-s2];exact (r7.1 n e aa).1
         ·rw [if_neg o] at I;rw [aam _ _ o];exact r7.1 n f I
        case hs=>
         intro n f I
         rw [ad] at I
         by_cases o:n=i
         ·subst o;rw [if_pos rfl] at I;cases I;exact ⟨e,aa,rfl⟩
         ·rw [if_neg o] at I;exact ⟨f,I,rfl⟩
      ·refine ⟨{ w with heap:=w.heap.setIfInBounds (μ j) (.map (ents.push { key:=M,val:=xv,born:=clock }) (clock+1)) },?_,?_⟩
       ·simp only [Instr.mapUpdate,Sem.run_bind,run_underlying hT,Result.andThen_ok,getObj,Sem.run,r1,acw hd J,ada hd q2,setObj]
       ·rw [q6];have af:∀ n,(ents.push { key:=M,val:=xv,born:=clock })[n]?=if n=ents.size then some { key:=M,val:=xv,born:=clock } else ents[n]?:=λn=>Array.getElem?_push
        have O:=hw.setMap hj (w':={ w with heap:=w.heap.setIfInBounds (μ j) (.map (ents.push { key:=M,val:=xv,born:=clock }) (clock+1)) }) (ents:=ents.push { key:=M,val:=xv,born:=clock }) (clock:=clock+1)
         (es':=es++[(toPV k,toPV x)]) (kc:=upd kc ents.size M.cells.toList) (vc:=upd vc ents.size xv.cells.toList) (by simp [ah]) (by simp [r4]) (λb Z=>by simp [Array.getElem?_setIfInBounds_ne (λe=>Z e.symm)]) (by simp) rfl rfl rfl
        refine (λh1 h2 h3 h4=>by obtain ⟨u1,u2⟩:=O h1 h2 h3 h4;exact ⟨_,_,_,_,_,Or.inr ⟨rfl,rfl⟩,u1,u2,.undef⟩) (λn z H=>?_) (λn z H=>?_) (And.intro (λn f I=>?_) (r7.2.push _ rfl)) (r8.push _ rfl)
        ·by_cases o:n<es.length
         ·rw [Ax o] at H;rw [aam _ _ (by omega)];exact r5 n z H
         ·have ae:n=ents.size:=by have:=(Bg.1 H).1;simp at this;omega
          subst ae;rw [r4,A3 (Nat.le_refl _)] at H;simp at H;subst H;rw [aai];exact ak
        ·by_cases o:n<es.length
         ·rw [Ax o] at H;rw [aam _ _ (by omega)];exact r6 n z H
         ·have ae:n=ents.size:=by have:=(Bg.1 H).1;simp at this;omega
          subst ae;rw [r4,A3 (Nat.le_refl _)] at H;simp at H;subst H;rw [aai];exact al
        ·rw [af] at I;by_cases o:n=ents.size
         ·subst o;rw [if_pos rfl] at I;cases I;rw [aai,aai];exact ⟨ai.symm,aj.symm⟩
         ·rw [if_neg o] at I;rw [aam _ _ o,aam _ _ o];exact r7.1 n f I
    ·simp at h
   ·simp at h
 ·simp at h
theorem aoa (hw:WRel Γ D ow μ st w) (T:TypeId) (m k:SV) (mv J:Value) (v:SV) (st':List BX) (hm:SRep Γ.P D w ow μ st m mv) (hk:SRep Γ.P D w ow μ st k J)
 (h:ab8 Γ.P T st m k=.upd true v st'):∃ u w',(Instr.mapEntry T mv J).run Γ.P w=.ok u w'/\OpRes Γ D ow μ st w (.ok (.value u) w') v st':=by
 unfold ab8 at h
 split at h
 ·rename_i K E hT;cases hc:(keyT Γ.P K&&isOf Γ.P K k&&aca Γ.P E&&isOf Γ.P E (abd Γ.P 12 E)) with
  | false=>rw [hc] at h;simp at h
  | true=>
   rw [hc] at h;simp only [Af] at h;simp only [Aj] at hc;obtain ⟨⟨⟨c1,c2⟩,c3⟩,c4⟩:=hc;split at h
   ·rename_i j;split at h
    ·rename_i K' E' es hj;cases hb:(Nat.beq K K'&&Nat.beq E E') with
     | false=>rw [hb] at h;simp at h
     | true=>
      rw [hb] at h;simp only [Aj] at hb;have:=Ae hb.1;subst this;have:=Ae hb.2;subst this;simp only [Af,Ac.upd.injEq,true_and] at h;obtain ⟨rfl,rfl⟩:=h;cases hm;obtain ⟨ents,clock,kc,vc,r1,r2,r3,r4,r5,r6,r7,r8⟩:=hw.map j K E es hj;have ak:=aba hk K c2;have aj:=afp hk c2;obtain ⟨iz,z,hi,au,aA,aB,ax,ay,az⟩:=abt (Γ:=Γ) (D:=D) (ow:=ow) (μ:=μ) (st:=st) (w:=w) c3;have av:=aba ay E c4;obtain ⟨d,hd,I⟩:=agb c1 ak;rw [aj] at I;have aa:∀ (i:Nat) (e:MapEntry) (y:PV×PV),ents.toList[i]?=some e->es[i]?=some y->KeyIs Γ.P K d y.1 e.key:=by intro i e y he hy;obtain ⟨d',ah,aw⟩:=agb c1 (r5 i y hy);rw [hd] at ah;cases ah;rw [(r7.1 i e (by simpa using he)).1];exact aw
      have ai:μ j<w.heap.size:=(hw.owlt _ _ r2).1;have am:∀ (n:Nat) (zv:Value) (D':Dom) (w':World) (al:Own) (an:Nat->Nat) (st':List BX),SRep Γ.P D' w' al an st' (.tup [.undef,.int .i64 ((n:Nat):Int)]) (.tuple #[zv,.int .i64 (n:Int)]):=by
       intro n zv D' w' al an st';refine .tup rfl (λi s v hs hv=>?_);match i,hs,hv with
       | 0,hs,hv=>cases hs;exact .undef
       | 1,hs,hv=>cases hs;cases hv;exact .int
      rcases akg hd I ents.toList es 0 (by simpa using r4) aa with ⟨i,y,e,q1,q2,q3,q4,q5,q6,q7⟩ | ⟨q1,q2,q6,q7⟩
      ·have M:ents[i]?=some e:=by simpa using q2
       have ap:=aa i e y q2 q1;obtain ⟨s1,s2⟩:=aso ap I q3 w;have ab:∀ (n:Nat),(ents.modify i λe=>{ e with key:=J })[n]?=if n=i then some { e with key:=J } else ents[n]?:=by
        intro n;rw [Array.getElem?_modify];by_cases o:i=n
        ·subst o;simp [M]
        ·rw [if_neg o,if_neg (λh=>o h.symm)]
       have ad:e.born=i:=r8.2 i e M;have ao:PV.mput es (toPV k) ((PV.mget es (toPV k)).getD (toPV (abd Γ.P 12 E)))=es:=by
        rw [q6,q4];simp only [Option.getD_some];exact List.ext_getElem? λn=>by
         by_cases o:n=i
         ·subst o;rw [List.getElem?_set_self (Bg.1 q1).1,q1]
         ·rw [Aq (by omega)]
       refine ⟨.tuple #[e.val,.int .i64 (i:Int)],{ w with heap:=w.heap.setIfInBounds (μ j) (.map (ents.modify i λe=>{ e with key:=J }) clock) },?_,?_⟩
       ·simp only [Nat.zero_add] at q5;have ar:((ents[i]?).map (·.key)).getD J=e.key:=by rw [M];rfl
        have aq:(Option.map (λx:MapEntry=>(x.born:Int)) ents[i]?).getD 0=(i:Int):=by rw [M];simp [ad]
        simp only [Instr.mapEntry,Sem.run_bind,run_underlying hT,Result.andThen_ok,getObj,Sem.run,r1,acw hd I,ada hd q5,ar,aq,s1,setObj,Sem.run_pure,goInt]
       ·rw [ao,q7];have Z:=hw.setMap hj (w':={ w with heap:=w.heap.setIfInBounds (μ j) (.map (ents.modify i λe=>{ e with key:=J }) clock) }) (ents:=ents.modify i λe=>{ e with key:=J }) (clock:=clock)
         (es':=es) (kc:=kc) (vc:=vc) (by simp [ai]) (by simpa using r4) (λb hb=>by simp [Array.getElem?_setIfInBounds_ne (λe=>hb e.symm)]) (by simp) rfl rfl rfl
        refine (λh3 h4=>by obtain ⟨u1,u2⟩:=Z r5 r6 h3 h4;exact ⟨_,_,_,_,_,Or.inl rfl,u1,u2,am ..⟩) (And.intro (λn f H=>?_) (r7.2.same ?hs)) (r8.same Array.size_modify ?hs)
        ·rw [ab] at H;by_cases o:n=i
         ·subst o;rw [if_pos rfl] at H;cases H;refine ⟨?_,(r7.1 n e M).2⟩;show J=_;rw [<-s2];exact (r7.1 n e M).1
         ·rw [if_neg o] at H;exact r7.1 n f H
        case hs=>
         intro n f H
         rw [ab] at H
         by_cases o:n=i
         ·subst o;rw [if_pos rfl] at H;cases H;exact ⟨e,M,rfl⟩
         ·rw [if_neg o] at H;exact ⟨f,H,rfl⟩
      ·have ag:clock=es.length:=by rw [r8.1,r4]
       refine ⟨.tuple #[z,.int .i64 (clock:Int)],{ w with heap:=w.heap.setIfInBounds (μ j) (.map (ents.push { key:=J,val:=z,born:=clock }) (clock+1)) },?_,?_⟩
       ·simp [Instr.mapEntry,run_underlying hT,getObj,Sem.run,r1,acw hd I,ada hd q2,zeroValue,typeInfo,hi,au,setObj,goInt]
       ·rw [q6,q7,q1];simp only [Option.getD_none];rw [<-ag];have af:∀ n,(ents.push { key:=J,val:=z,born:=clock })[n]?=if n=ents.size then some { key:=J,val:=z,born:=clock } else ents[n]?:=λn=>Array.getElem?_push
        have Z:=hw.setMap hj (w':={ w with heap:=w.heap.setIfInBounds (μ j) (.map (ents.push { key:=J,val:=z,born:=clock }) (clock+1)) }) (ents:=ents.push { key:=J,val:=z,born:=clock }) (clock:=clock+1)
         (es':=es++[(toPV k,toPV (abd Γ.P 12 E))]) (kc:=upd kc ents.size J.cells.toList) (vc:=upd vc ents.size z.cells.toList) (by simp [ai]) (by simp [r4]) (λb hb=>by simp [Array.getElem?_setIfInBounds_ne (λe=>hb e.symm)]) (by simp) rfl rfl rfl
        refine (λh1 h2 h3 h4=>by obtain ⟨u1,u2⟩:=Z h1 h2 h3 h4;exact ⟨_,_,_,_,_,Or.inl rfl,u1,u2,am ..⟩) (λn z O=>?_) (λn z O=>?_) (And.intro (λn f H=>?_) (r7.2.push _ rfl)) (r8.push _ rfl)
        ·by_cases o:n<es.length
         ·rw [Ax o] at O;rw [aam _ _ (by omega)];exact r5 n z O
         ·have ae:n=ents.size:=by have:=(Bg.1 O).1;simp at this;omega
          subst ae;rw [r4,A3 (Nat.le_refl _)] at O;simp at O;subst O;rw [aai];exact ak
        ·by_cases o:n<es.length
         ·rw [Ax o] at O;rw [aam _ _ (by omega)];exact r6 n z O
         ·have ae:n=ents.size:=by have:=(Bg.1 O).1;simp at this;omega
          subst ae;rw [r4,A3 (Nat.le_refl _)] at O;simp at O;subst O;rw [aai];exact av
        ·rw [af] at H;by_cases o:n=ents.size
         ·subst o;rw [if_pos rfl] at H;cases H;rw [aai,aai];exact ⟨aj.symm,ax⟩
         ·rw [if_neg o] at H;rw [aam _ _ o,aam _ _ o];exact r7.1 n f H
    ·simp at h
   ·simp at h
 ·simp at h
theorem alo (hw:WRel Γ D ow μ st w) (T:TypeId) (m s x:SV) (mv sv xv:Value) (v:SV) (st':List BX) (hm:SRep Γ.P D w ow μ st m mv) (hs:SRep Γ.P D w ow μ st s sv) (hx:SRep Γ.P D w ow μ st x xv)
 (h:aby Γ.P T st m s x=.upd true v st'):∃ w',(Instr.entryStore T mv sv xv).run Γ.P w=.ok () w'/\OpRes Γ D ow μ st w (.ok .skip w') v st':=by
 unfold aby at h
 split at h
 ·rename_i K E hT;cases hc:isOf Γ.P E x with
  | false=>rw [hc] at h;simp at h
  | true=>
   rw [hc] at h;simp only [Af] at h;split at h
   ·rename_i j n;split at h
    ·rename_i K' E' es hj;cases M:(Nat.beq K K'&&Nat.beq E E') with
     | false=>rw [M] at h;simp at h
     | true=>
      rw [M] at h;simp only [Aj] at M;have:=Ae M.1;subst this;have:=Ae M.2;subst this;simp only [Af,Ac.upd.injEq] at h;obtain ⟨ab,rfl,rfl⟩:=h;cases hm;cases hs;obtain ⟨i,rfl,af⟩:∃ i:Nat,n=(i:Int)/\i<es.length:=by unfold aaa at ab;simp only [Aj,A5] at ab;exact ⟨n.toNat,by omega,by omega⟩
      obtain ⟨ents,clock,kc,vc,r1,r2,r3,r4,r5,r6,r7,r8⟩:=hw.map j K E es hj;have ai:=aba hx E hc;have ah:=afp hx hc;have ag:μ j<w.heap.size:=(hw.owlt _ _ r2).1;have Z:i<ents.size:=by omega
      obtain ⟨e,aa⟩:∃ e,ents[i]?=some e:=⟨_,Array.getElem?_eq_getElem Z⟩;obtain ⟨y,q1⟩:∃ y,es[i]?=some y:=⟨_,As af⟩;have O:ents.findIdx? (λe=>(e.born:Int)==(i:Int))=some i:=by
       rw [Array.findIdx?_eq_some_iff_getElem];refine ⟨Z,?_,λj' aj=>?_⟩
       ·have:=r8.2 i ents[i] (Array.getElem?_eq_getElem Z);simp [this]
       ·have:=r8.2 j' ents[j'] (Array.getElem?_eq_getElem (by omega));simp [this];omega
      have J:∀ (n:Nat),(ents.modify i λe=>{ e with val:=xv })[n]?=if n=i then some { e with val:=xv } else ents[n]?:=by
       intro n;rw [Array.getElem?_modify];by_cases o:i=n
       ·subst o;simp [aa]
       ·rw [if_neg o,if_neg (λh=>o h.symm)]
      refine ⟨{ w with heap:=w.heap.setIfInBounds (μ j) (.map (ents.modify i λe=>{ e with val:=xv }) clock) },?_,?_⟩
      ·simp only [Instr.entryStore,Sem.run_bind,Result.andThen_ok,getObj,Sem.run,r1,asInt,asIntOf,Sem.run_pure,O,setObj]
      ·have ae:PV.mset es ((i:Int)).toNat (toPV x)=es.set i (y.1,toPV x):=by
        unfold PV.mset;rw [Ai,q1]
       rw [ae];have ad:=hw.setMap hj (w':={ w with heap:=w.heap.setIfInBounds (μ j) (.map (ents.modify i λe=>{ e with val:=xv }) clock) }) (ents:=ents.modify i λe=>{ e with val:=xv }) (clock:=clock)
        (es':=es.set i (y.1,toPV x)) (kc:=kc) (vc:=upd vc i xv.cells.toList) (by simp [ag]) (by simpa using r4) (λb M=>by simp [Array.getElem?_setIfInBounds_ne (λe=>M e.symm)]) (by simp) rfl rfl rfl
       refine (λh1 h2 h3 h4=>by obtain ⟨u1,u2⟩:=ad h1 h2 h3 h4;exact ⟨_,_,_,_,_,Or.inr ⟨rfl,rfl⟩,u1,u2,.undef⟩) (λn z I=>?_) (λn z I=>?_) (And.intro (λn f H=>?_) (r7.2.same ?hs)) (r8.same Array.size_modify ?hs)
       ·by_cases o:n=i
        ·subst o;rw [List.getElem?_set_self (Bg.1 q1).1] at I;cases I;exact r5 n y q1
        ·rw [Aq (by omega)] at I;exact r5 n z I
       ·by_cases o:n=i
        ·subst o;rw [List.getElem?_set_self (Bg.1 q1).1] at I;cases I;rw [aai];exact ai
        ·rw [Aq (by omega)] at I;rw [aam _ _ o];exact r6 n z I
       ·rw [J] at H;by_cases o:n=i
        ·subst o;rw [if_pos rfl] at H;cases H;exact ⟨(r7.1 n e aa).1,by rw [aai];exact ah.symm⟩
        ·rw [if_neg o] at H;rw [aam _ _ o];exact r7.1 n f H
       case hs=>
        intro n f H
        rw [J] at H
        by_cases o:n=i
        ·subst o;rw [if_pos rfl] at H;cases H;exact ⟨e,aa,rfl⟩
        ·rw [if_neg o] at H;exact ⟨f,H,rfl⟩
    ·simp at h
   ·simp at h
 ·simp at h
end
end Go.Ab
