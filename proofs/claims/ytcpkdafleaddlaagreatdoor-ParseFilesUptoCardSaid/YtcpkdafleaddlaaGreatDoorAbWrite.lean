/- Operations that write. -/
import Derived.Test.YtcpkdafleaddlaaGreatDoorAbMap
set_option linter.unusedVariables false
set_option linter.unusedSimpArgs false
set_option linter.unnecessarySimpa false
namespace Go.Ab
open Go
section
variable {Γ:Ctx}{D:Dom}{ow:Own}{μ:Nat->Nat}{st:List BX}{w:World}
theorem bbm (H:WRel Γ D ow μ st w) (T:TypeId) (s:SV) (z:List Value) (U:z.length=Γ.P.cellsOf T) (W:SRep Γ.P D w ow μ st s (pack Γ.P T z)) (r:Result Next)
 (V:r=.ok (.value (.pointer (some ⟨w.heap.size,0,none⟩))) (w.alloc (.cells z.toArray T))):OpRes Γ D ow μ st w r (.ref st.length [] T) (st++[.box T s]):=by
 have X:∀ o,¬D w.heap.size o:=λo d=>by have:=H.dlt _ _ d;omega
 obtain ⟨M,O⟩:=H.newOwn (.cells z.toArray T) (.box T s) (λm=>
  ⟨z,T,by grind [aah,aax],U,by rw [aah,aah],by grind [aah],W.mono m⟩)
 refine ⟨_,_,_,_,_,Or.inl V,M,O,?_⟩
 have:=SRep.ref (P:=Γ.P) (D:=D) (w:=w.alloc (.cells z.toArray T)) (ow:=upd ow w.heap.size (some st.length)) (μ:=upd μ st.length w.heap.size) (st:=st++[.box T s]) (k:=st.length) (path:=[]) (T:=T) (TB:=T) (v:=s) (off:=0)
  (by grind) rfl
 grind [aah]
theorem al1 {P:Program}{T:TypeId} (h:av7 P T=true):∃ i,P.info? T=some i/\i.zero=some (.agg #[.pointer none,.slice none 0 0]):=by
 unfold av7 at h;split at h
 ·rename_i cs d;cases o:P.info? T with
  | none=>grind
  | some i=>
   rw [o] at d;refine ⟨i,rfl,?_⟩;simp only [Aa] at d;rw [d];split at h
   ·rename_i m;have:cs=#[.pointer none,.slice none 0 0]:=by
     grind
    rw [this]
   ·cases h
 ·cases h
theorem av1 (V:WRel Γ D ow μ st w) (T:TypeId) {v:SV}{st':List BX} (h:ahn Γ.P T st=.upd true v st'):∃ u w',(Instr.alloc T true (.tuple #[])).run Γ.P w=.ok u w'/\
 OpRes Γ D ow μ st w (.ok (.value u) w') v st':=by
 unfold ahn at h
 cases H:ajh Γ.P T with
 | true=>
  rw [H] at h
  simp only [Ad,Ac.upd.injEq,true_and] at h
  obtain ⟨rfl,rfl⟩:=h
  simp only [ajh,Ai] at H
  obtain ⟨i,O,M⟩:=al1 H.2
  have hD:∀ o,¬D w.heap.size o:=λo d=>by have:=V.dlt _ _ d;omega
  obtain ⟨Y,Z⟩:=V.newOwn (.cells #[.pointer none,.slice none 0 0] T) (.bld T []) (λm=>show BldRep _ _ _ _ _ _ _ _ from
   ⟨.pointer none,.slice none 0 0,by grind [aah,aax],Or.inl rfl,by rw [aah,aah],by grind [aah],Or.inl ⟨rfl,rfl⟩⟩)
  refine ⟨.pointer (some ⟨w.heap.size,0,none⟩),w.alloc (.cells #[.pointer none,.slice none 0 0] T),by simp [Instr.alloc,zeroValue,typeInfo,O,M,newVar,newRow,Value.cells],_,_,_,_,_,Or.inl rfl,Y,Z,?_⟩
  have:=SRep.bref (P:=Γ.P) (D:=D) (w:=w.alloc (.cells #[.pointer none,.slice none 0 0] T)) (ow:=upd ow w.heap.size (some st.length)) (μ:=upd μ st.length w.heap.size) (st:=st++[.bld T []]) (k:=st.length) (T:=T) (TB:=T) (bs:=[])
   (by grind)
  grind [aah]
 | false=>
  rw [H] at h
  simp only [Ae] at h
  cases M:adc Γ.P T with
  | false=>grind
  | true=>
   rw [M] at h
   simp only [Ad,Ac.upd.injEq,true_and] at h
   obtain ⟨rfl,rfl⟩:=h
   obtain ⟨i,z,O,U,aa,W,ab,ad,X⟩:=aby (Γ:=Γ) (D:=D) (ow:=ow) (μ:=μ) (st:=st) (w:=w) M
   refine ⟨_,_,?_,bbm V T _ z.cells.toList (by simpa using W) (by grind) _ rfl⟩
   simp [Instr.alloc,zeroValue,typeInfo,O,U,newVar,newRow]
theorem a3h (z:WRel Γ D ow μ st w) (T:TypeId) (s:SV) (v:Value) (o:SRep Γ.P D w ow μ st s v) (m:ah0 Γ.P T s=true):∃ u w',(Instr.box T v).run Γ.P w=.ok u w'/\
 OpRes Γ D ow μ st w (.ok (.value u) w') (.ref st.length [] T) (st++[.box T s]):=by
 obtain ⟨d,H,M⟩:=af7 o m
 refine ⟨_,_,?_,bbm z T s v.cells.toList d (by grind) _ rfl⟩
 simp [Instr.box,newVar,newRow]
theorem ap1:∀ (n:Nat) (T:TypeId) (s:SV) (v:Value),SRep Γ.P D w ow μ st s v->al5 Γ.P n T s=true->v=.agg #[.pointer none,.slice none 0 0]:=by
 intro n;induction n with
 | zero=>intro T s v _ h;simp [al5] at h
 | succ n ih=>
  intro T s v hs h;unfold al5 at h;split at h
  ·rename_i m T' fs hT;simp only [Ai] at h;obtain ⟨h0,h⟩:=h;have:=Af h0;subst this;cases hs with
   | @agg _ aa _ cs O Z ho hv hp=>
    rw [hT] at O;cases O;split at h
    ·rename_i f x d;simp only [Ai] at h;obtain ⟨⟨⟨o,z⟩,H⟩,M⟩:=h;have o:=Af o;have z:=Af z;have Y:m[0]?=some f:=by
      have:m.toList[0]?=some f:=by rw [d];rfl
      simpa using this
     have U:=hp 0 x f rfl Y;rw [o,A1,z,<-Z,List.take_length] at U;have:=ih f.type x _ U M;simp only [pack,H,A6,Value.agg.injEq] at this;rw [this]
    ·rename_i f g d;simp only [Ai,Bool.not_eq_true'] at h;obtain ⟨⟨⟨⟨⟨⟨o,z⟩,H⟩,M⟩,V⟩,W⟩,X⟩:=h;have H:=Af H;have M:=Af M;have V:=Af V;have W:=Af W;have X:=Af X;have Y:m[0]?=some f:=by
      have:m.toList[0]?=some f:=by rw [d];rfl
      simpa using this
     have hg:m[1]?=some g:=by
      have:m.toList[1]?=some g:=by rw [d];rfl
      simpa using this
     have U:=hp 0 _ f rfl Y;have hy:=hp 1 _ g rfl hg;rw [X] at Z;match cs,Z with
     | [a,b],_=>simp only [H,V,A1,List.take,pack,o,A2,A7,List.headD] at U;simp only [M,W,List.drop,List.take,pack,z,A2,A7,List.headD] at hy;cases U;cases hy;rfl
    ·cases h
  ·cases h
theorem av8 (M:WRel Γ D ow μ st w) (T:TypeId) (s:SV) (H:Value) (W:SRep Γ.P D w ow μ st s H) {v:SV}{st':List BX} (h:aty Γ.P T s st=.upd true v st'):∃ u w',(Instr.box T H).run Γ.P w=.ok u w'/\OpRes Γ D ow μ st w (.ok (.value u) w') v st':=by
 unfold aty at h;cases z:(ajh Γ.P T&&al5 Γ.P 3 T s) with
 | true=>
  rw [z] at h;simp only [Ad,Ac.upd.injEq,true_and] at h;obtain ⟨rfl,rfl⟩:=h;simp only [Ai] at z;have X:=ap1 3 T s H W z.2;subst X;have Y:∀ o,¬D w.heap.size o:=λo d=>by have:=M.dlt _ _ d;omega
  obtain ⟨O,U⟩:=M.newOwn (.cells #[.pointer none,.slice none 0 0] T) (.bld T []) (λm=>show BldRep _ _ _ _ _ _ _ _ from
   ⟨.pointer none,.slice none 0 0,by grind [aah,aax],Or.inl rfl,by rw [aah,aah],by grind [aah],Or.inl ⟨rfl,rfl⟩⟩)
  refine ⟨.pointer (some ⟨w.heap.size,0,none⟩),w.alloc (.cells #[.pointer none,.slice none 0 0] T),by simp [Instr.box,newVar,newRow,Value.cells],_,_,_,_,_,Or.inl rfl,O,U,?_⟩;have:=SRep.bref (P:=Γ.P) (D:=D) (w:=w.alloc (.cells #[.pointer none,.slice none 0 0] T)) (ow:=upd ow w.heap.size (some st.length)) (μ:=upd μ st.length w.heap.size) (st:=st++[.bld T []]) (k:=st.length) (T:=T) (TB:=T) (bs:=[])
   (by grind)
  grind [aah]
 | false=>
  rw [z] at h;simp only [Ae] at h;cases V:ah0 Γ.P T s with
  | false=>grind
  | true=>rw [V] at h;simp only [Ad,Ac.upd.injEq,true_and] at h;obtain ⟨rfl,rfl⟩:=h;grind [a3h]
theorem WRel.setBox (H:WRel Γ D ow μ st w) {k:Nat}{TB:TypeId}{s V:SV} (Z:st[k]?=some (.box TB s)) {w':World}{z:List Value}{T':TypeId}
 (hh:w'.heap[μ k]?=some (.cells z.toArray T' (0,0))) (hl:z.length=Γ.P.cellsOf TB) (X:∀ b,b≠μ k->w'.heap[b]?=w.heap[b]?) (ab:w'.heap.size=w.heap.size)
 (ah:w'.os=w.os) (aj:w'.tape=w.tape) (ai:w'.output=w.output) (hs:SRep Γ.P D w ow μ st V (pack Γ.P TB z)):
 WRel Γ D ow μ (st.set k (.box TB V)) w'/\Moves D w ow μ st D w' ow μ (st.set k (.box TB V)):=by
 have ak:=(A4.1 Z).1
 obtain ⟨c0,T0,b1,b2,b3,b4,b5⟩:=H.box k TB s Z
 have ne:∀ {j:Nat}{y:BX},st[j]?=some y->j≠k->(st.set k (.box TB V))[j]?=some y:=λe M=>by grind
 have O:(st.set k (.box TB V))[k]?=some (.box TB V):=by grind
 have af:Keeps D w w':=Keeps.of_heap λb o d=>X b (λe=>by grind)
 have m:Moves D w ow μ st D w' ow μ (st.set k (.box TB V)):=by
  refine ⟨λ_ _ d=>d,af,λj T x e=>⟨rfl,?_⟩,λj K E es e=>⟨rfl,?_⟩,λj b e hs=>⟨rfl,b,?_,rfl⟩,λj E g xs e=>?_,λj g e=>?_⟩
  ·grind
  ·grind
  ·by_cases M:j=k
   ·subst M;rw [Z] at e;cases e;exact absurd rfl hs
   ·exact ne e M
  ·by_cases M:j=k
   ·grind
   ·refine ⟨g,xs,ne e M,Nat.le_refl _,λ_=>⟨rfl,λad hc ag=>⟨rfl,ag,ad,(X _ (λaa=>?_)).trans hc,rfl⟩⟩⟩;grind
  grind
 have U:∀ j,j<Γ.np->∃ b,(st.set k (.box TB V))[j]?=some b/\b.kind=Γ.K0 j:=by
  intro j M;obtain ⟨x,hx,p1⟩:=H.par j M;by_cases ae:j=k
  ·subst ae;rw [Z] at hx;cases hx;exact ⟨_,O,p1⟩
  grind
 refine ⟨⟨λj T x e=>?_,λj K E es e=>?_,λj x e=>?_,λb j o=>?_,λb o d=>by rw [ab];exact H.dlt b o d,ah.trans H.os,aj.trans H.tape,ai.trans H.output,by rw [ab];exact H.hs,λb hb hn=>?_,H.dom0,H.domN,H.owN,by grind,H.mu0,U,λb j y ob e hy o d=>?_,H.keep0.trans m.keeps H.dom0,H.arr0_moves m U⟩,m⟩
 ·by_cases M:j=k
  ·subst M;rw [O] at e;cases e;exact ⟨z,T',hh,hl,b3,b4,hs.mono m⟩
  ·rw [Ap (by omega)] at e;obtain ⟨c,T1,q1,q2,q3,q4,q5⟩:=H.box j T x e;have W:μ j≠μ k:=λaa=>by grind
   exact BoxRep.mono ⟨c,T1,q1,q2,q3,q4,q5⟩ m rfl (X _ W) q3 q4
 ·by_cases M:j=k
  ·grind
  ·rw [Ap (by omega)] at e;obtain ⟨ents,clock,kc,vc,q1,q2,q3⟩:=H.map j K E es e;have W:μ j≠μ k:=λaa=>by grind
   exact OMapRep.mono ⟨ents,clock,kc,vc,q1,q2,q3⟩ m.dom m.keeps rfl (X _ W) q2 q3.1
 ·by_cases M:j=k
  ·subst M;rw [O] at e;cases e;trivial
  ·rw [Ap (by omega)] at e;refine (H.obj j x e).mono m.dom m.keeps (λ_=>rfl) (λc oc=>⟨X c (λhb=>?_),oc,λ_ d=>d⟩);grind
 ·have:=H.owlt b j o;grind
 ·by_cases Y:b=μ k
  ·subst Y;have:=H.owN _ _ b3 hb;grind
  ·exact (X b Y).trans (H.old b hb hn)
 ·by_cases M:j=k
  ·subst M;exact H.lone b j _ ob Z (by simp) o d
  ·rw [Ap (by omega)] at e;exact H.lone b j y ob e hy o d
theorem WRel.setArr (z:WRel Γ D ow μ st w) {k g:Nat}{M:TypeId}{xs xs':List PV} (hk:st[k]?=some (.arr M g xs)) {w':World}{V H:Array Value} (ak:w.heap[μ k]?=some (.cells V M (0,0))) (b3:ow (μ k)=some k) (b4:∀ o,¬D (μ k) o)
 (hh:w'.heap[μ k]?=some (.cells H M (0,0))) (am:H.size=V.size) (hl:xs'.length=xs.length) (Z:∀ b,b≠μ k->w'.heap[b]?=w.heap[b]?) (ad:w'.heap.size=w.heap.size)
 (ag:w'.os=w.os) (ai:w'.tape=w.tape) (ah:w'.output=w.output) (hs:xs'.length*Γ.P.cellsOf M<=H.size/\∀ (i:Nat) (x:PV),xs'[i]?=some x->Rep Γ.P D w M x ((H.toList.drop (i*Γ.P.cellsOf M)).take (Γ.P.cellsOf M))):
 WRel Γ D ow μ (st.set k (.arr M g xs')) w'/\Moves D w ow μ st D w' ow μ (st.set k (.arr M g xs')):=by
 have an:=(A4.1 hk).1
 have ne:∀ {j:Nat}{y:BX},st[j]?=some y->j≠k->(st.set k (.arr M g xs'))[j]?=some y:=λe O=>by grind
 have U:(st.set k (.arr M g xs'))[k]?=some (.arr M g xs'):=by grind
 have af:Keeps D w w':=Keeps.of_heap λb o d=>Z b (λe=>by grind)
 have m:Moves D w ow μ st D w' ow μ (st.set k (.arr M g xs')):=by
  refine ⟨λ_ _ d=>d,af,λj T x e=>⟨rfl,?_⟩,λj K E es e=>⟨rfl,?_⟩,λj b e hs=>⟨rfl,b,?_,rfl⟩,λj E g xs e=>?_,λj g e=>?_⟩
  ·grind
  ·grind
  ·by_cases O:j=k
   ·subst O;rw [hk] at e;cases e;exact absurd rfl hs
   ·exact ne e O
  ·by_cases O:j=k
   ·subst O;rw [hk] at e;cases e;refine ⟨_,_,U,Nat.le_refl _,λ_=>⟨hl,λaj al Y=>⟨rfl,Y,H,hh,?_⟩⟩⟩;grind
   ·refine ⟨_,_,ne e O,Nat.le_refl _,λ_=>⟨rfl,λV hc Y=>⟨rfl,Y,V,(Z _ (λab=>?_)).trans hc,rfl⟩⟩⟩;grind
  grind
 have W:∀ j,j<Γ.np->∃ b,(st.set k (.arr M g xs'))[j]?=some b/\b.kind=Γ.K0 j:=by
  intro j O;obtain ⟨x,hx,p1⟩:=z.par j O;by_cases ae:j=k
  ·subst ae;rw [hk] at hx;cases hx;exact ⟨_,U,p1⟩
  grind
 refine ⟨⟨λj T x e=>?_,λj K E es e=>?_,λj x e=>?_,λb j o=>?_,λb o d=>by rw [ad];exact z.dlt b o d,ag.trans z.os,ai.trans z.tape,ah.trans z.output,by rw [ad];exact z.hs,λb hb hn=>?_,z.dom0,z.domN,z.owN,by grind,z.mu0,W,λb j y ob e hy o d=>?_,z.keep0.trans m.keeps z.dom0,z.arr0_moves m W⟩,m⟩
 ·by_cases O:j=k
  ·grind
  ·rw [Ap (by omega)] at e;obtain ⟨c,T1,q1,q2,q3,q4,q5⟩:=z.box j T x e;have X:μ j≠μ k:=λab=>by grind
   exact BoxRep.mono ⟨c,T1,q1,q2,q3,q4,q5⟩ m rfl (Z _ X) q3 q4
 ·by_cases O:j=k
  ·grind
  ·rw [Ap (by omega)] at e;obtain ⟨ents,clock,kc,vc,q1,q2,q3⟩:=z.map j K E es e;have X:μ j≠μ k:=λab=>by grind
   exact OMapRep.mono ⟨ents,clock,kc,vc,q1,q2,q3⟩ m.dom m.keeps rfl (Z _ X) q2 q3.1
 ·by_cases O:j=k
  ·subst O;rw [U] at e;cases e;exact Or.inr ⟨H,hh,b3,b4,hs.1,λi x hx=>(hs.2 i x hx).mono m.dom m.keeps⟩
  ·rw [Ap (by omega)] at e;refine (z.obj j x e).mono m.dom m.keeps (λ_=>rfl) (λc oc=>⟨Z c (λhb=>?_),oc,λ_ d=>d⟩);grind
 ·have:=z.owlt b j o;grind
 ·by_cases aa:b=μ k
  ·subst aa;have:=z.owN _ _ b3 hb;grind
  ·exact (Z b aa).trans (z.old b hb hn)
 ·by_cases O:j=k
  ·subst O;exact z.lone b j _ ob hk (by simp) o d
  ·rw [Ap (by omega)] at e;exact z.lone b j y ob e hy o d
theorem ax1 (hw:WRel Γ D ow μ st w) (T:TypeId) (a x:SV) (ad M:Value) (v:SV) (st':List BX) (ha:SRep Γ.P D w ow μ st a ad) (hx:SRep Γ.P D w ow μ st x M) (h:aei Γ.P T st a x=.upd true v st'):
 ∃ w',(Instr.storeAt T ad M).run Γ.P w=.ok () w'/\OpRes Γ D ow μ st w (.ok .skip w') v st':=by
 unfold aei at h
 split at h
 ·rename_i k path Z;cases O:(Nat.beq T Z&&ah0 Γ.P T x&&!(Nat.beq (Γ.P.cellsOf T) 0)) with
  | false=>grind
  | true=>
   rw [O] at h;simp only [Ai,Bool.not_eq_true'] at O;have:=Af O.1.1;subst this;have af:Γ.P.cellsOf T≠0:=λe=>by simp_all
   simp only [Ad] at h;cases ha with
   | @ref _ _ _ TB s off hk hp=>
    rw [hk] at h;simp only at h;cases hg:aie Γ.P TB s path x with
    | none=>grind
    | some s'=>
     rw [hg] at h;simp only [Ac.upd.injEq,true_and] at h;obtain ⟨rfl,rfl⟩:=h;obtain ⟨f1,f2,f3⟩:=af7 hx O.1.2;obtain ⟨d,Z,b1,b2,b3,b4,b5⟩:=hw.box k TB s hk;obtain ⟨r1,r2⟩:=ak2 path TB s d off T x M.cells.toList s' b5 b2 hp (by grind) f1 f2 hg;obtain ⟨am,hi,ab⟩:=abe af;have X:=run_storeCells_at Γ.P (μ k) off Z M.cells.toList 0 d.toArray w b1 (by simpa using r2) f2;simp only [Nat.add_zero,List.toList_toArray] at X;have W:(w.setRow (μ k) (abj d off M.cells.toList).toArray).heap[μ k]?=some (.cells (abj d off M.cells.toList).toArray Z (0,0)):=setRow_heap w (μ k) d.toArray _ Z _ b1;obtain ⟨q1,q2⟩:=hw.setBox hk W (by grind [ab5]) (λb O=>setRow_other w (μ k) b _ O) (by simp) rfl rfl rfl r1;refine ⟨w.setRow (μ k) (abj d off M.cells.toList).toArray,?_,Go.undef,_,D,ow,μ,Or.inr ⟨rfl,rfl⟩,q1,q2,.undef⟩;have ag:M.cells.size=Γ.P.cellsOf T:=by simpa using f1
     simp only [Instr.storeAt,Instr.sureAddr,Sem.run_bind,Sem.run_pure,Result.andThen_ok,storeVar,abc hi ab,ag,ne_eq,not_true_eq_false,A7];exact X
 ·rename_i k i E;cases O:(Nat.beq T E&&isOf Γ.P E x&&abf Γ.P E) with
  | false=>grind
  | true=>
   rw [O] at h;simp only [Ad] at h;simp only [Ai,abf,Bool.not_eq_true',Bd] at O;obtain ⟨⟨e1,e2⟩,⟨e3,e4⟩,e5⟩:=O;have:=Af e1;subst this;have af:Γ.P.cellsOf T≠0:=λe=>by simp_all
   cases ha with
   | @eref _ _ n _ TB s hk hT hi=>
    rw [hk] at h;split at h;case h_2=>cases h
    rename_i aA an pv he;cases he;cases hc:(Nat.beq TB an&&att Γ.P TB T) with
    | false=>grind
    | true=>
     rw [hc] at h;simp only [Ad,Ac.upd.injEq,true_and] at h;obtain ⟨rfl,rfl⟩:=h;simp only [Ai] at hc;have:=Af hc.1;subst this;have au:Γ.P.cellsOf TB=n*Γ.P.cellsOf T:=by have:=hc.2;unfold att at this;simp_all
     obtain ⟨d,Z,b1,b2,b3,b4,b5⟩:=hw.box k TB _ hk;obtain ⟨a1,a2,a3,a4,a5⟩:=anj hT b5 b2;have Y:=abk hx T e2;have V:M.cells.toList.length=Γ.P.cellsOf T:=by
      cases aj:aak Γ.P T with
      | true=>exact Y.aggLen aj
      | false=>
       rcases e5 with h' | h'
       ·grind
       ·obtain ⟨u,hu⟩:=Y.single aj;grind [Nat.eq_of_beq_eq_true]
     have ae:(i+1)*Γ.P.cellsOf T<=n*Γ.P.cellsOf T:=Au _ (by omega);rw [Nat.add_mul] at ae;have U:i*Γ.P.cellsOf T+M.cells.toList.length<=d.length:=by omega
     obtain ⟨am,aa,ab⟩:=abe af;have X:=run_storeCells_at Γ.P (μ k) (i*Γ.P.cellsOf T) Z M.cells.toList 0 d.toArray w b1 (by simpa using U) Y.oneCell;simp only [Nat.add_zero,List.toList_toArray] at X;have W:(w.setRow (μ k) (abj d (i*Γ.P.cellsOf T) M.cells.toList).toArray).heap[μ k]?=some (.cells (abj d (i*Γ.P.cellsOf T) M.cells.toList).toArray Z (0,0)):=setRow_heap w (μ k) d.toArray _ Z _ b1;have ak:aak Γ.P TB=true:=by simp [aak,hT]
     have r1:SRep Γ.P D w ow μ st (.data TB (.agg (pv.parts.set i (toPV x)))) (pack Γ.P TB (abj d (i*Γ.P.cellsOf T) M.cells.toList)):=by
      simp only [pack,ak,A6];refine .data ak (.arr hT (by grind [ab5]) (λc o=>?_) (by simpa using a2) (λm y hm=>?_))
      ·unfold abj at o;simp only [Bm] at o;rcases o with (o | o) | o
       ·grind
       ·exact Y.oneCell c o
       grind
      ·by_cases ai:m=i
       ·grind [List.getElem?_set_self,ao1]
       ·rw [Ap (by omega)] at hm;rw [aef U]
        ·exact a5 m y hm
        ·rw [V];rcases Nat.lt_or_gt_of_ne ai with h' | h'
         ·have:(m+1)*Γ.P.cellsOf T<=i*Γ.P.cellsOf T:=Au _ (by omega);grind
         ·have:(i+1)*Γ.P.cellsOf T<=m*Γ.P.cellsOf T:=Au _ (by omega);grind
     obtain ⟨q1,q2⟩:=hw.setBox hk W (by grind [ab5]) (λb O=>setRow_other w (μ k) b _ O) (by simp) rfl rfl rfl r1;refine ⟨w.setRow (μ k) (abj d (i*Γ.P.cellsOf T) M.cells.toList).toArray,?_,Go.undef,_,D,ow,μ,Or.inr ⟨rfl,rfl⟩,q1,q2,.undef⟩;have ag:M.cells.size=Γ.P.cellsOf T:=by simpa using V
     simp only [Instr.storeAt,Instr.sureAddr,Sem.run_bind,Sem.run_pure,Result.andThen_ok,storeVar,abc aa ab,ag,ne_eq,not_true_eq_false,A7];exact X
 ·rename_i k g i E path Z;cases O:(Nat.beq T Z&&abf Γ.P E&&ah0 Γ.P T x&&!(Nat.beq (Γ.P.cellsOf T) 0)) with
  | false=>grind
  | true=>
   rw [O] at h;simp only [Ad] at h;simp only [Ai,abf,Bool.not_eq_true',Bd] at O;obtain ⟨⟨⟨ap,⟨aB,aC⟩,aq⟩,ar⟩,aD⟩:=O;have:=Af ap;subst this;have af:Γ.P.cellsOf T≠0:=λe=>by simp_all
   split at h;case h_2=>cases h
   rename_i xs ao;have ah:=aes ao;split at h;case h_2=>cases h
   rename_i y hg;cases hy:isOf Γ.P E y with
   | false=>grind
   | true=>
   rw [hy] at h;simp only [Ad,Ac.upd.injEq,true_and] at h;obtain ⟨rfl,rfl⟩:=h;cases ha with
   | arefOld hk hg=>grind
   | @aref _ _ _ off _ _ _ aG H hk hi hp hc ho=>
    rw [ah] at hk;cases hk;obtain ⟨a1,a2,a3⟩:=ayi hw ah hi hc;obtain ⟨f1,f2,f3⟩:=af7 hx ar;have ae:=a1;rw [Nat.add_mul] at ae;have V:((H.toList.drop (i*Γ.P.cellsOf E)).take (Γ.P.cellsOf E)).length=Γ.P.cellsOf E:=by simp;omega
    obtain ⟨r1,r2⟩:=ak2 path E _ _ off T x M.cells.toList y (a3.ofPV (ow:=ow) (μ:=μ) (st:=st)) V hp (by grind) f1 f2 hg;rw [V] at r2;obtain ⟨am,aa,ab⟩:=abe af;have U:i*Γ.P.cellsOf E+off+M.cells.toList.length<=H.toList.length:=by grind
    have X:=run_storeCells_at Γ.P (μ k) (i*Γ.P.cellsOf E+off) E M.cells.toList 0 H w hc (by simpa using U) f2;simp only [Nat.add_zero,List.toList_toArray] at X;have W:(w.setRow (μ k) (abj H.toList (i*Γ.P.cellsOf E+off) M.cells.toList).toArray).heap[μ k]?=some (.cells (abj H.toList (i*Γ.P.cellsOf E+off) M.cells.toList).toArray E (0,0)):=setRow_heap w (μ k) H _ E _ hc;have aF:=abk r1 E hy;have ax:xs.length*Γ.P.cellsOf E<=H.size/\∀ (j:Nat) (z:PV),xs[j]?=some z->Rep Γ.P D w E z ((H.toList.drop (j*Γ.P.cellsOf E)).take (Γ.P.cellsOf E)):=by rcases hw.obj k _ ah with h0 | ⟨az,q1,q2,q3,q4,q5⟩;all_goals grind
    have ay:(abj H.toList (i*Γ.P.cellsOf E+off) M.cells.toList).toArray.size=H.size:=by grind [ab5]
    have av:∀ (m:Nat) (z:PV),(xs.set i (toPV y))[m]?=some z->Rep Γ.P D w E z ((((abj H.toList (i*Γ.P.cellsOf E+off) M.cells.toList).toArray).toList.drop (m*Γ.P.cellsOf E)).take (Γ.P.cellsOf E)):=by
     intro m z hm;have al:off+M.cells.toList.length<=Γ.P.cellsOf E:=by simpa using r2
     by_cases ai:m=i
     ·subst ai;rw [List.getElem?_set_self hi] at hm;cases hm;simp only;rw [ak3 (by simp;omega) al];have aE:(pack Γ.P E (abj ((H.toList.drop (m*Γ.P.cellsOf E)).take (Γ.P.cellsOf E)) off M.cells.toList)).cells.toList=abj ((H.toList.drop (m*Γ.P.cellsOf E)).take (Γ.P.cellsOf E)) off M.cells.toList:=by
       have aw:(abj ((H.toList.drop (m*Γ.P.cellsOf E)).take (Γ.P.cellsOf E)) off M.cells.toList).length=Γ.P.cellsOf E:=by grind [ab5]
       refine aqn (aq.imp id (λh=>aw.trans (Af h))) (λc o=>?_);unfold abj at o;simp only [Bm] at o;rcases o with (o | o) | o
       ·exact a3.oneCell c (List.mem_of_mem_take o)
       ·exact f2 c o
       ·exact a3.oneCell c (List.mem_of_mem_drop o)
      grind
     ·rw [Ap (by omega)] at hm;simp only;rw [aef U]
      ·grind
      ·rcases Nat.lt_or_gt_of_ne ai with h' | h'
       ·have:(m+1)*Γ.P.cellsOf E<=i*Γ.P.cellsOf E:=Au _ (by omega);grind
       ·have:(i+1)*Γ.P.cellsOf E<=m*Γ.P.cellsOf E:=Au _ (by omega);grind
    obtain ⟨q1,q2⟩:=hw.setArr (xs':=xs.set i (toPV y)) ah hc ho a2 W ay (by simp) (λb O=>setRow_other w (μ k) b _ O) (by simp) rfl rfl rfl ⟨by grind,av⟩;refine ⟨w.setRow (μ k) (abj H.toList (i*Γ.P.cellsOf E+off) M.cells.toList).toArray,?_,Go.undef,_,D,ow,μ,Or.inr ⟨rfl,rfl⟩,q1,q2,.undef⟩;have ag:M.cells.size=Γ.P.cellsOf T:=by simpa using f1
    simp only [Instr.storeAt,Instr.sureAddr,Sem.run_bind,Sem.run_pure,Result.andThen_ok,storeVar,abc aa ab,ag,ne_eq,not_true_eq_false,A7];exact X
 ·simp at h
theorem ar4 (H:WRel Γ D ow μ st w) (T K E:TypeId):∃ u w',(Instr.makeMap T none).run Γ.P w=.ok u w'/\OpRes Γ D ow μ st w (.ok (.value u) w') (.mref st.length) (st++[.map K E []]):=by
 have V:∀ o,¬D w.heap.size o:=λo d=>by have:=H.dlt _ _ d;omega
 obtain ⟨M,O⟩:=H.newOwn (.map #[] 0) (.map K E []) (λm=>
  ⟨#[],0,λ_=>[],λ_=>[],by grind [aah,aax],by rw [aah,aah],by grind [aah],rfl,λi x z=>by simp at z,λi x z=>by simp at z,λi e U=>by simp at U⟩)
 refine ⟨.map (some w.heap.size),w.alloc (.map #[] 0),by simp [Instr.makeMap],_,_,_,_,_,Or.inl rfl,M,O,?_⟩;have:=SRep.mref (P:=Γ.P) (D:=D) (w:=w.alloc (.map #[] 0)) (ow:=upd ow w.heap.size (some st.length)) (μ:=upd μ st.length w.heap.size) (st:=st++[.map K E []]) (k:=st.length) (K:=K) (E:=E) (es:=[])
  (by grind)
 grind [aah]
theorem a3z (hw:WRel Γ D ow μ st w) {η:Operand->Value}{ρ:Operand->SV} (aa:∀ x,SRep Γ.P D w ow μ st (ρ x) (η x)) (o:Oper) {k:Nat}{v:SV}{b:BX}{st':List BX} (h:extV Γ.P o.op ρ k=some (v,b)) (V:aq6 Γ.np st k b st'):
 OpRes Γ D ow μ st w ((execOp η o).run Γ.P w) v st':=by
 have hD:∀ o,¬D w.heap.size o:=λo d=>by have:=hw.dlt _ _ d;omega
 have X:∀ T,b=.bld T []->v=.bref k T->∀ r:Result Next,r=.ok (.value (.pointer (some ⟨w.heap.size,0,none⟩))) (w.alloc (.cells #[.pointer none,.slice none 0 0] T))->OpRes Γ D ow μ st w r v st':=by
  intro T O hv r hr;subst O;subst hv;obtain ⟨Z,U,W⟩:=hw.newOwnAt (.cells #[.pointer none,.slice none 0 0] T) (.bld T []) (λm=>show BldRep _ _ _ _ _ _ _ _ from
   ⟨.pointer none,.slice none 0 0,by grind [aah,aax],Or.inl rfl,by rw [aah,aah],by grind [aah],Or.inl ⟨rfl,rfl⟩⟩) V
  refine ⟨_,_,_,_,_,Or.inl hr,U,W,?_⟩;have:=SRep.bref (P:=Γ.P) (D:=D) (w:=w.alloc (.cells #[.pointer none,.slice none 0 0] T)) (ow:=upd ow w.heap.size (some k)) (μ:=upd μ k w.heap.size) (k:=k) (T:=T) (TB:=T) (bs:=[]) Z;grind [aah]
 have Y:∀ T s,b=.box T s->v=.ref k [] T->∀ (H:List Value),H.length=Γ.P.cellsOf T->SRep Γ.P D w ow μ st s (pack Γ.P T H)->∀ r:Result Next,r=.ok (.value (.pointer (some ⟨w.heap.size,0,none⟩))) (w.alloc (.cells H.toArray T))->OpRes Γ D ow μ st w r v st':=by
  intro T s O hv H hl hs r hr;subst O;subst hv;obtain ⟨Z,U,W⟩:=hw.newOwnAt (.cells H.toArray T) (.box T s) (λm=>
   ⟨H,T,by grind [aah,aax],hl,by rw [aah,aah],by grind [aah],hs.mono m⟩) V
  refine ⟨_,_,_,_,_,Or.inl hr,U,W,?_⟩;have:=SRep.ref (P:=Γ.P) (D:=D) (w:=w.alloc (.cells H.toArray T)) (ow:=upd ow w.heap.size (some k)) (μ:=upd μ k w.heap.size) (k:=k) (path:=[]) (T:=T) (TB:=T) (v:=s) (off:=0) Z rfl;grind [aah]
 unfold extV at h
 split at h
 ·rename_i T M;cases O:ajh Γ.P T with
  | true=>rw [O] at h;simp only [Ad,Ak,Prod.mk.injEq] at h;simp only [ajh,Ai] at O;obtain ⟨i,hi,hz⟩:=al1 O.2;exact X T h.2.symm h.1.symm _ (by simp [execOp,M,Instr.alloc,zeroValue,typeInfo,hi,hz,newVar,newRow,Value.cells])
  | false=>
   rw [O] at h;simp only [Ae] at h;cases hz:adc Γ.P T with
   | false=>grind
   | true=>rw [hz] at h;simp only [Ad,Ak,Prod.mk.injEq] at h;obtain ⟨i,z,hi,ab,af,ad,ag,ah,ae⟩:=aby (Γ:=Γ) (D:=D) (ow:=ow) (μ:=μ) (st:=st) (w:=w) hz;exact Y T _ h.2.symm h.1.symm z.cells.toList (by simpa using ad) (by grind) _ (by simp [execOp,M,Instr.alloc,zeroValue,typeInfo,hi,ab,newVar,newRow])
 ·rename_i T x M;cases O:(ajh Γ.P T&&al5 Γ.P 3 T (ρ x)) with
  | true=>rw [O] at h;simp only [Ad,Ak,Prod.mk.injEq] at h;simp only [Ai] at O;have hv:=ap1 3 T _ _ (aa x) O.2;exact X T h.2.symm h.1.symm _ (by simp [execOp,M,hv,Instr.box,newVar,newRow,Value.cells])
  | false=>
   rw [O] at h;simp only [Ae] at h;cases hf:ah0 Γ.P T (ρ x) with
   | false=>grind
   | true=>rw [hf] at h;simp only [Ad,Ak,Prod.mk.injEq] at h;obtain ⟨U,W,h3⟩:=af7 (aa x) hf;exact Y T _ h.2.symm h.1.symm (η x).cells.toList U (by grind) _ (by simp [execOp,M,Instr.box,newVar,newRow])
 ·rename_i T r M;split at h
  ·rename_i K E hT;simp only [Ak,Prod.mk.injEq] at h;obtain ⟨rfl,rfl⟩:=h;obtain ⟨Z,U,W⟩:=hw.newOwnAt (.map #[] 0) (.map K E []) (λm=>
    ⟨#[],0,λ_=>[],λ_=>[],by grind [aah,aax],by rw [aah,aah],by grind [aah],rfl,λi x hx=>by simp at hx,λi x hx=>by simp at hx,λi e he=>by simp at he⟩) V
   refine ⟨.map (some w.heap.size),w.alloc (.map #[] 0),_,_,_,Or.inl (by simp [execOp,M,Instr.makeMap]),U,W,?_⟩;have:=SRep.mref (P:=Γ.P) (D:=D) (w:=w.alloc (.map #[] 0)) (ow:=upd ow w.heap.size (some k)) (μ:=upd μ k w.heap.size) (k:=k) (K:=K) (E:=E) (es:=[]) Z;grind [aah]
  ·cases h
 ·cases h
theorem WRel.setMap (z:WRel Γ D ow μ st w) {k:Nat}{K E:TypeId}{es es':List (PV×PV)} (Z:st[k]?=some (.map K E es)) {w':World}{ents:Array MapEntry}{clock:Nat}{kc vc:Nat->List Value}
 (hh:w'.heap[μ k]?=some (.map ents clock)) (hl:ents.size=es'.length) (X:∀ b,b≠μ k->w'.heap[b]?=w.heap[b]?) (ab:w'.heap.size=w.heap.size)
 (aj:w'.os=w.os) (al:w'.tape=w.tape) (ak:w'.output=w.output)
 (h1:∀ (i:Nat) (x:PV×PV),es'[i]?=some x->Rep Γ.P D w K x.1 (kc i)) (h2:∀ (i:Nat) (x:PV×PV),es'[i]?=some x->Rep Γ.P D w E x.2 (vc i))
 (h3:∀ (i:Nat) (e:MapEntry),ents[i]?=some e->e.key=pack Γ.P K (kc i)/\e.val=pack Γ.P E (vc i)):
 WRel Γ D ow μ (st.set k (.map K E es')) w'/\Moves D w ow μ st D w' ow μ (st.set k (.map K E es')):=by
 have ao:=(A4.1 Z).1
 obtain ⟨af,ad,ap,aq,b1,b3,b4,_⟩:=z.map k K E es Z
 have ne:∀ {j:Nat}{y:BX},st[j]?=some y->j≠k->(st.set k (.map K E es'))[j]?=some y:=λe H=>by grind
 have M:(st.set k (.map K E es'))[k]?=some (.map K E es'):=by grind
 have ah:Keeps D w w':=Keeps.of_heap λb o d=>X b (λe=>by grind)
 have m:Moves D w ow μ st D w' ow μ (st.set k (.map K E es')):=by
  refine ⟨λ_ _ d=>d,ah,λj T x e=>⟨rfl,?_⟩,λj K E es e=>⟨rfl,?_⟩,λj b e hs=>⟨rfl,b,?_,rfl⟩,λj E g xs e=>?_,λj g e=>?_⟩
  ·grind
  ·grind
  ·by_cases H:j=k
   ·subst H;rw [Z] at e;cases e;exact absurd rfl hs
   ·exact ne e H
  ·by_cases H:j=k
   ·grind
   ·refine ⟨g,xs,ne e H,Nat.le_refl _,λ_=>⟨rfl,λae hc ai=>⟨rfl,ai,ae,(X _ (λaa=>?_)).trans hc,rfl⟩⟩⟩;grind
  grind
 have U:∀ j,j<Γ.np->∃ b,(st.set k (.map K E es'))[j]?=some b/\b.kind=Γ.K0 j:=by
  intro j H;obtain ⟨x,hx,p1⟩:=z.par j H;by_cases ag:j=k
  ·subst ag;rw [Z] at hx;cases hx;exact ⟨_,M,p1⟩
  grind
 refine ⟨⟨λj T x e=>?_,λj K E es e=>?_,λj x e=>?_,λb j o=>?_,λb o d=>by rw [ab];exact z.dlt b o d,aj.trans z.os,al.trans z.tape,ak.trans z.output,by rw [ab];exact z.hs,λb hb hn=>?_,z.dom0,z.domN,z.owN,by grind,z.mu0,U,λb j y ob e hy o d=>?_,z.keep0.trans m.keeps z.dom0,z.arr0_moves m U⟩,m⟩
 ·by_cases H:j=k
  ·grind
  ·rw [Ap (by omega)] at e;obtain ⟨c,T1,q1,q2,q3,q4,q5⟩:=z.box j T x e;have W:μ j≠μ k:=λaa=>by grind
   exact BoxRep.mono ⟨c,T1,q1,q2,q3,q4,q5⟩ m rfl (X _ W) q3 q4
 ·by_cases H:j=k
  ·subst H;rw [M] at e;cases e;exact ⟨ents,clock,kc,vc,hh,b3,b4,hl,λi x a=>(h1 i x a).mono m.dom m.keeps,λi x a=>(h2 i x a).mono m.dom m.keeps,h3⟩
  ·rw [Ap (by omega)] at e;obtain ⟨V,O,am,an,q1,q2,q3⟩:=z.map j _ _ _ e;have W:μ j≠μ k:=λaa=>by grind
   exact OMapRep.mono ⟨V,O,am,an,q1,q2,q3⟩ m.dom m.keeps rfl (X _ W) q2 q3.1
 ·by_cases H:j=k
  ·subst H;rw [M] at e;cases e;trivial
  ·rw [Ap (by omega)] at e;refine (z.obj j x e).mono m.dom m.keeps (λ_=>rfl) (λc oc=>⟨X c (λhb=>?_),oc,λ_ d=>d⟩);grind
 ·have:=z.owlt b j o;grind
 ·by_cases Y:b=μ k
  ·subst Y;have:=z.owN _ _ b3 hb;grind
  ·exact (X b Y).trans (z.old b hb hn)
 ·by_cases H:j=k
  ·subst H;exact z.lone b j _ ob Z (by simp) o d
  ·rw [Ap (by omega)] at e;exact z.lone b j y ob e hy o d
theorem a6s {P:Program}{K:TypeId}{d:TypeDesc}{x y:PV}{a b:Value} (M:KeyIs P K d x a) (z:KeyIs P K d y b) (h:alg y x=true) (w:World):(Instr.keyThatStays a b).run P w=.ok b w/\a=b:=by
 cases M with
 | str s o=>subst o;cases z with
  | str t _=>simp [alg] at h;subst h;exact ⟨by simp [Instr.keyThatStays,Instr.sameBits,ayl],rfl⟩
  | int _ _ h=>cases h
  | bool _ h=>cases h
 | int k n o=>subst o;cases z with
  | int O m H=>cases H;simp [alg] at h;subst h;exact ⟨by simp [Instr.keyThatStays,Instr.sameBits],rfl⟩
  | str _ h=>cases h
  | bool _ h=>cases h
 | bool p o=>subst o;cases z with
  | bool q _=>simp [alg] at h;subst h;exact ⟨by simp [Instr.keyThatStays,Instr.sameBits],rfl⟩
  | int _ _ h=>cases h
  | str _ h=>cases h
theorem ah8 (hw:WRel Γ D ow μ st w) (T:TypeId) (m k x:SV) (mv H M:Value) (v:SV) (st':List BX) (hm:SRep Γ.P D w ow μ st m mv) (hk:SRep Γ.P D w ow μ st k H) (hx:SRep Γ.P D w ow μ st x M)
 (h:abv Γ.P T st m k x=.upd true v st'):∃ w',(Instr.mapUpdate T mv H M).run Γ.P w=.ok () w'/\OpRes Γ D ow μ st w (.ok .skip w') v st':=by
 unfold abv at h
 split at h
 ·rename_i K E hT;cases hc:(keyT Γ.P K&&isOf Γ.P K k&&isOf Γ.P E x) with
  | false=>grind
  | true=>
   rw [hc] at h;simp only [Ad] at h;simp only [Ai] at hc;obtain ⟨⟨c1,c2⟩,c3⟩:=hc;split at h
   ·rename_i j;split at h
    ·rename_i K' E' es hj;cases Z:(Nat.beq K K'&&Nat.beq E E') with
     | false=>grind
     | true=>
      rw [Z] at h;simp only [Ai] at Z;have:=Af Z.1;subst this;have:=Af Z.2;subst this;simp only [Ad,Ac.upd.injEq,true_and] at h;obtain ⟨rfl,rfl⟩:=h;cases hm;obtain ⟨ents,clock,kc,vc,r1,r2,r3,r4,r5,r6,r7⟩:=hw.map j K E es hj;have ag:=abk hk K c2;have af:=aki hk c2;have aj:=abk hx E c3;have ai:=aki hx c3;obtain ⟨d,hd,o⟩:=akl c1 ag;rw [af] at o;have U:∀ (i:Nat) (e:MapEntry) (y:PV×PV),ents.toList[i]?=some e->es[i]?=some y->KeyIs Γ.P K d y.1 e.key:=by grind [akl]
      have aa:μ j<w.heap.size:=(hw.owlt _ _ r2).1;rcases aqc o ents.toList es 0 (by simpa using r4) U with ⟨i,y,e,q1,q2,q3,q4,q5,q6⟩ | ⟨q1,q2,q6⟩
      ·have ah:ents[i]?=some e:=by simpa using q2
       have ad:=U i e y q2 q1;obtain ⟨s1,s2⟩:=a6s ad o q3 w;have ab:∀ (n:Nat),(ents.modify i λe=>{ e with key:=H,val:=M })[n]?=if n=i then some { e with key:=H,val:=M } else ents[n]?:=by grind
       refine ⟨{ w with heap:=w.heap.setIfInBounds (μ j) (.map (ents.modify i λe=>{ e with key:=H,val:=M }) clock) },?_,?_⟩
       ·simp only [Nat.zero_add] at q5;have ae:((ents[i]?).map (·.key)).getD H=e.key:=by rw [ah];rfl
        simp only [Instr.mapUpdate,Sem.run_bind,run_underlying hT,Result.andThen_ok,getObj,Sem.run,r1,aed hd o,ae8 hd q5,ae,s1,setObj]
       ·rw [q6];have O:=hw.setMap hj (w':={ w with heap:=w.heap.setIfInBounds (μ j) (.map (ents.modify i λe=>{ e with key:=H,val:=M }) clock) }) (ents:=ents.modify i λe=>{ e with key:=H,val:=M }) (clock:=clock)
         (es':=es.set i (y.1,toPV x)) (kc:=kc) (vc:=upd vc i M.cells.toList) (by simp [aa]) (by simpa using r4) (λb Z=>by grind) (by simp) rfl rfl rfl
        refine (λh1 h2 h3=>by obtain ⟨u1,u2⟩:=O h1 h2 h3;exact ⟨_,_,_,_,_,Or.inr ⟨rfl,rfl⟩,u1,u2,.undef⟩) (λn z hz=>?_) (λn z hz=>?_) (λn f W=>?_)
        ·all_goals grind
        ·by_cases V:n=i;all_goals grind [List.getElem?_set_self,List.getElem?_eq_some_iff,aah,List.getElem?_set_ne,aap]
        ·rw [ab] at W;by_cases V:n=i
         ·subst V;rw [if_pos rfl] at W;grind [aah]
         ·rw [if_neg V] at W;grind [aap]
      ·refine ⟨{ w with heap:=w.heap.setIfInBounds (μ j) (.map (ents.push { key:=H,val:=M,born:=clock }) (clock+1)) },?_,?_⟩
       ·simp only [Instr.mapUpdate,Sem.run_bind,run_underlying hT,Result.andThen_ok,getObj,Sem.run,r1,aed hd o,ae8 hd q2,setObj]
       ·rw [q6];have Y:∀ n,(ents.push { key:=H,val:=M,born:=clock })[n]?=if n=ents.size then some { key:=H,val:=M,born:=clock } else ents[n]?:=λn=>Array.getElem?_push
        have O:=hw.setMap hj (w':={ w with heap:=w.heap.setIfInBounds (μ j) (.map (ents.push { key:=H,val:=M,born:=clock }) (clock+1)) }) (ents:=ents.push { key:=H,val:=M,born:=clock }) (clock:=clock+1)
         (es':=es++[(toPV k,toPV x)]) (kc:=upd kc ents.size H.cells.toList) (vc:=upd vc ents.size M.cells.toList) (by simp [aa]) (by simp [r4]) (λb Z=>by grind) (by simp) rfl rfl rfl
        refine (λh1 h2 h3=>by obtain ⟨u1,u2⟩:=O h1 h2 h3;exact ⟨_,_,_,_,_,Or.inr ⟨rfl,rfl⟩,u1,u2,.undef⟩) (λn z hz=>?_) (λn z hz=>?_) (λn f W=>?_)
        ·by_cases V:n<es.length
         ·grind [List.getElem?_append_left,aap]
         ·have X:n=ents.size:=by grind
          subst X;rw [r4,Be (Nat.le_refl _)] at hz;grind [aah]
        ·by_cases V:n<es.length
         ·grind [List.getElem?_append_left,aap]
         ·have X:n=ents.size:=by grind
          subst X;rw [r4,Be (Nat.le_refl _)] at hz;grind [aah]
        ·rw [Y] at W;by_cases V:n=ents.size
         ·subst V;rw [if_pos rfl] at W;grind [aah]
         ·rw [if_neg V] at W;grind [aap]
    ·simp at h
   ·simp at h
 ·simp at h
end
end Go.Ab
