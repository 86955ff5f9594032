/- Operations that write. -/
import Derived.Test.YtofplaamkkpciaaGreatDoorAbMap
set_option linter.unusedVariables false
set_option linter.unusedSimpArgs false
set_option linter.unnecessarySimpa false
namespace Go.Ab
open Go
section
variable{Γ:Ctx}{D:Dom}{ow:Own}{μ:Nat->Nat}{st:List BX}{w:World}
theorem bgw(z:WRel Γ D ow μ st w)(T:TypeId)(s:SV)(t:List Value)(I:t.length=Γ.P.cellsOf T)(M:SRep Γ.P D w ow μ st s (pack Γ.P T t))(r:Result Next)
 (J:r=.ok (.value (.pointer (some ⟨w.heap.size,0,none⟩))) (w.alloc (.cells t.toArray T))):OpRes Γ D ow μ st w r (.ref st.length [] T) (st++[.box T s]):=by
 have O:∀o,¬D w.heap.size o:=λo d=>by have:=z.dlt _ _ d;omega
 obtain⟨G,H⟩:=z.newOwn (.cells t.toArray T) (.box T s) (λm=>
  ⟨t,T,by grind[aaf,aaw],I,by rw[aaf,aaf],by grind[aaf],M.mono m⟩)
 refine⟨_,_,_,_,_,Or.inl J,G,H,?_⟩
 have:=SRep.ref (P:=Γ.P) (D:=D) (w:=w.alloc (.cells t.toArray T)) (ow:=upd ow w.heap.size (some st.length)) (μ:=upd μ st.length w.heap.size) (st:=st++[.box T s]) (k:=st.length) (path:=[]) (T:=T) (TB:=T) (v:=s) (off:=0)
  (by grind) rfl
 grind[aaf]
theorem anz{P:Program}{T:TypeId}(h:azk P T=true):∃i,P.info? T=some i/\i.zero=some (.agg #[.pointer none,.slice none 0 0]):=by
 unfold azk at h;split at h
 ·rename_i cs m;cases t:P.info? T with
  |none=>grind
  |some i=>
   rw[t]at m;refine⟨i,rfl,?_⟩;simp only[Aa]at m;rw[m];split at h
   ·rename_i o;have:cs=#[.pointer none,.slice none 0 0]:=by
     grind
    rw[this]
   ·cases h
 ·cases h
theorem azd(J:WRel Γ D ow μ st w)(T:TypeId){v:SV}{st':List BX}(h:aic Γ.P T st=.upd true v st'):∃u w',(Instr.alloc T true (.tuple #[])).run Γ.P w=.ok u w'/\
 OpRes Γ D ow μ st w (.ok (.value u) w') v st':=by
 unfold aic at h
 cases t:aj5 Γ.P T with
 |true=>
  rw[t]at h
  simp only[Ad,Ac.upd.injEq,true_and]at h
  obtain⟨rfl,rfl⟩:=h
  simp only[aj5,Ai]at t
  obtain⟨i,H,G⟩:=anz t.2
  have Z:∀o,¬D w.heap.size o:=λo d=>by have:=J.dlt _ _ d;omega
  obtain⟨O,U⟩:=J.newOwn (.cells #[.pointer none,.slice none 0 0] T) (.bld T []) (λm=>show BldRep _ _ _ _ _ _ _ _ from
   ⟨.pointer none,.slice none 0 0,by grind[aaf,aaw],Or.inl rfl,by rw[aaf,aaf],by grind[aaf],Or.inl ⟨rfl,rfl⟩⟩)
  refine⟨.pointer (some ⟨w.heap.size,0,none⟩),w.alloc (.cells #[.pointer none,.slice none 0 0] T),by simp[Instr.alloc,zeroValue,typeInfo,H,G,newVar,newRow,Value.cells],_,_,_,_,_,Or.inl rfl,O,U,?_⟩
  have:=SRep.bref (P:=Γ.P) (D:=D) (w:=w.alloc (.cells #[.pointer none,.slice none 0 0] T)) (ow:=upd ow w.heap.size (some st.length)) (μ:=upd μ st.length w.heap.size) (st:=st++[.bld T []]) (k:=st.length) (T:=T) (TB:=T) (bs:=[])
   (by grind)
  grind[aaf]
 |false=>
  rw[t]at h
  simp only[Af]at h
  cases G:acg Γ.P T with
  |false=>grind
  |true=>
   rw[G]at h
   simp only[Ad,Ac.upd.injEq,true_and]at h
   obtain⟨rfl,rfl⟩:=h
   obtain⟨i,z,H,I,V,Y,W,X,M⟩:=abo (Γ:=Γ) (D:=D) (ow:=ow) (μ:=μ) (st:=st) (w:=w) G
   refine⟨_,_,?_,bgw J T _ z.cells.toList (by omega) (by grind) _ rfl⟩
   simp[Instr.alloc,zeroValue,typeInfo,H,I,newVar,newRow]
theorem a8k(z:WRel Γ D ow μ st w)(T:TypeId)(s:SV)(v:Value)(t:SRep Γ.P D w ow μ st s v)(o:afl Γ.P T s=true):∃u w',(Instr.box T v).run Γ.P w=.ok u w'/\
 OpRes Γ D ow μ st w (.ok (.value u) w') (.ref st.length [] T) (st++[.box T s]):=by
 obtain⟨m,G,H⟩:=ae1 t o
 refine⟨_,_,?_,bgw z T s v.cells.toList m (by grind) _ rfl⟩
 rfl
theorem atb:∀(n:Nat)(T:TypeId)(s:SV)(v:Value),SRep Γ.P D w ow μ st s v->an3 Γ.P n T s=true->v=.agg #[.pointer none,.slice none 0 0]:=by
 intro n;induction n with
 |zero=>simp_all[an3]
 |succ n ih=>
  intro T s v hs h;unfold an3 at h;split at h
  ·rename_i m T' fs hT;simp only[Ai]at h;obtain⟨h0,h⟩:=h;have:=Ag h0;subst this;cases hs with
   |@agg _ Z _ cs G W ho hv X=>
    rw[abj hT]at G;cases G;split at h
    ·rename_i f x U;simp only[Ai]at h;obtain⟨⟨⟨o,t⟩,I⟩,z⟩:=h;have o:=Ag o;have t:=Ag t;have V:m[0]?=some f:=by
      have:m.toList[0]?=some f:=by simp[*]
      grind
     have H:=X 0 x f rfl V;rw[o,Ar,t,<-W,List.take_length]at H;have:=ih f.type x _ H z;simp_all[pack,A8,Value.agg.injEq]
    ·rename_i f g U;simp only[Ai,Bool.not_eq_true']at h;obtain⟨⟨⟨⟨⟨⟨o,t⟩,I⟩,z⟩,J⟩,M⟩,O⟩:=h;have I:=Ag I;have z:=Ag z;have J:=Ag J;have M:=Ag M;have O:=Ag O;have V:m[0]?=some f:=by
      have:m.toList[0]?=some f:=by simp[*]
      grind
     have hg:m[1]?=some g:=by
      have:m.toList[1]?=some g:=by simp[*]
      grind
     have H:=X 0 _ f rfl V;have Y:=X 1 _ g rfl hg;rw[O]at W;match cs,W with
     |[a,b],_=>simp only[I,J,Ar,List.take,pack,o,A3,A9,List.headD]at H;simp only[z,M,List.drop,List.take,pack,t,A3,A9,List.headD]at Y;cases H;cases Y;rfl
    ·cases h
  ·cases h
theorem azl(z:WRel Γ D ow μ st w)(T:TypeId)(s:SV)(xv:Value)(J:SRep Γ.P D w ow μ st s xv){v:SV}{st':List BX}(h:awz Γ.P T s st=.upd true v st'):∃u w',(Instr.box T xv).run Γ.P w=.ok u w'/\OpRes Γ D ow μ st w (.ok (.value u) w') v st':=by
 unfold awz at h;cases t:(aj5 Γ.P T&&an3 Γ.P 3 T s)with
 |true=>
  rw[t]at h;simp only[Ad,Ac.upd.injEq,true_and]at h;obtain⟨rfl,rfl⟩:=h;simp only[Ai]at t;have M:=atb 3 T s xv J t.2;subst M;have O:∀o,¬D w.heap.size o:=λo d=>by have:=z.dlt _ _ d;omega
  obtain⟨G,H⟩:=z.newOwn (.cells #[.pointer none,.slice none 0 0] T) (.bld T []) (λm=>show BldRep _ _ _ _ _ _ _ _ from
   ⟨.pointer none,.slice none 0 0,by grind[aaf,aaw],Or.inl rfl,by rw[aaf,aaf],by grind[aaf],Or.inl ⟨rfl,rfl⟩⟩)
  refine⟨.pointer (some ⟨w.heap.size,0,none⟩),w.alloc (.cells #[.pointer none,.slice none 0 0] T),by rfl,_,_,_,_,_,Or.inl rfl,G,H,?_⟩;have:=SRep.bref (P:=Γ.P) (D:=D) (w:=w.alloc (.cells #[.pointer none,.slice none 0 0] T)) (ow:=upd ow w.heap.size (some st.length)) (μ:=upd μ st.length w.heap.size) (st:=st++[.bld T []]) (k:=st.length) (T:=T) (TB:=T) (bs:=[])
   (by grind)
  grind[aaf]
 |false=>
  rw[t]at h;simp only[Af]at h;cases I:afl Γ.P T s with
  |false=>grind
  |true=>rw[I]at h;simp only[Ad,Ac.upd.injEq,true_and]at h;obtain⟨rfl,rfl⟩:=h;grind[a8k]
theorem WRel.setBox(U:WRel Γ D ow μ st w){k:Nat}{TB:TypeId}{s t:SV}(O:st[k]?=some (.box TB s)){w':World}{o:List Value}{J:TypeId}
 (X:w'.heap[μ k]?=some (.cells o.toArray J (0,0))) (Y:o.length=Γ.P.cellsOf TB) (Z:∀b,b≠μ k->w'.heap[b]?=w.heap[b]?) (H:w'.heap.size=w.heap.size)
 (z:w'.os=w.os) (I:w'.tape=w.tape) (G:w'.output=w.output) (hs:SRep Γ.P D w ow μ st t (pack Γ.P TB o)):
 WRel Γ D ow μ (st.set k (.box TB t)) w'/\Moves D w ow μ st D w' ow μ (st.set k (.box TB t)):=by
 obtain⟨c0,T0,b1,b2,M,V,b5⟩:=U.box k TB s O
 exact U.setB (.box TB t) O ⟨rfl,_,rfl⟩ (Or.inr (by simp)) (λb W=>Z b λe=>W (e▸M)) H z I G λm=>⟨o,J,X,Y,M,V,hs.mono m⟩
theorem WRel.setArr(hw:WRel Γ D ow μ st w){k g:Nat}{z:TypeId}{xs xs':List PV}(hk:st[k]?=some (.arr z g xs)){w':World}{G t:Array Value}(I:w.heap[μ k]?=some (.cells G z (0,0)))(X:ow (μ k)=some k)(b4:∀o,¬D (μ k) o)
 (Z:w'.heap[μ k]?=some (.cells t z (0,0))) (J:t.size=G.size) (hl:xs'.length=xs.length) (ho:∀b,b≠μ k->w'.heap[b]?=w.heap[b]?) (V:w'.heap.size=w.heap.size)
 (O:w'.os=w.os) (W:w'.tape=w.tape) (U:w'.output=w.output) (hs:xs'.length*Γ.P.cellsOf z<=t.size/\∀(i:Nat)(x:PV),xs'[i]?=some x->Rep Γ.P D w z x ((t.toList.drop (i*Γ.P.cellsOf z)).take (Γ.P.cellsOf z))):
 WRel Γ D ow μ (st.set k (.arr z g xs')) w'/\Moves D w ow μ st D w' ow μ (st.set k (.arr z g xs')):=
 hw.setB (.arr z g xs') hk ⟨g,xs',rfl,Nat.le_refl _,λ_=>⟨hl,λY H M=>⟨rfl,M,t,Z,by rw[I]at H;cases H;exact J⟩⟩⟩ (Or.inr (by simp)) (λb hb=>ho b λe=>hb (e▸X)) V O W U λm=>Or.inr ⟨t,Z,X,b4,hs.1,λi x hx=>(hs.2 i x hx).mono m.dom m.keeps⟩
theorem ak2(hw:WRel Γ D ow μ st w)(T:TypeId)(a x:SV)(ad xv:Value)(v:SV)(st':List BX)(ha:SRep Γ.P D w ow μ st a ad)(hx:SRep Γ.P D w ow μ st x xv)(h:ad8 Γ.P T st a x=.upd true v st'):
 ∃w',(Instr.storeAt T ad xv).run Γ.P w=.ok () w'/\OpRes Γ D ow μ st w (.ok .skip w') v st':=by
 unfold ad8 at h
 split at h
 ·rename_i k path U;cases H:(Nat.beq T U&&afl Γ.P T x&&!(Nat.beq (Γ.P.cellsOf T) 0))with
  |false=>grind
  |true=>
   rw[H]at h;simp only[Ai,Bool.not_eq_true']at H;have:=Ag H.1.1;subst this;have aa:Γ.P.cellsOf T≠0:=λe=>by simp_all
   simp only[Ad]at h;cases ha with
   |@ref _ _ _ TB s off Y hp=>
    rw[Y]at h;simp only at h;cases hg:ai0 Γ.P TB s path x with
    |none=>grind
    |some s'=>
     rw[hg]at h;simp only[Ac.upd.injEq,true_and]at h;obtain⟨rfl,rfl⟩:=h;obtain⟨f1,f2,f3⟩:=ae1 hx H.1.2;obtain⟨o,U,b1,b2,b3,b4,b5⟩:=hw.box k TB s Y;obtain⟨r1,r2⟩:=amj path TB s o off T x xv.cells.toList s' b5 b2 hp (by grind) f1 f2 hg;obtain⟨aj,hi,X⟩:=aay aa;have J:=run_storeCells_at Γ.P (μ k) off U xv.cells.toList 0 o.toArray w b1 (by omega) f2;simp only[Nat.add_zero,List.toList_toArray]at J;have I:(w.setRow (μ k) (abe o off xv.cells.toList).toArray).heap[μ k]?=some (.cells (abe o off xv.cells.toList).toArray U (0,0)):=setRow_heap w (μ k) o.toArray _ U _ b1;obtain⟨q1,q2⟩:=hw.setBox Y I (by grind[abz]) (λb H=>setRow_other w (μ k) b _ H) (by simp) rfl rfl rfl r1;refine⟨w.setRow (μ k) (abe o off xv.cells.toList).toArray,?_,Go.undef,_,D,ow,μ,Or.inr ⟨rfl,rfl⟩,q1,q2,.undef⟩;have ab:xv.cells.size=Γ.P.cellsOf T:=by omega
     simp only[Instr.storeAt,Instr.sureAddr,Sem.run_bind,Sem.run_pure,Result.andThen_ok,storeVar,aax hi X,ab,ne_eq,not_true_eq_false,A9];exact J
 ·rename_i k i E;cases H:(Nat.beq T E&&isOf Γ.P E x&&aa7 Γ.P E)with
  |false=>grind
  |true=>
   rw[H]at h;simp only[Ad]at h;simp only[Ai,aa7,Bool.not_eq_true',A7]at H;obtain⟨⟨e1,e2⟩,⟨e3,e4⟩,e5⟩:=H;have:=Ag e1;subst this;have aa:Γ.P.cellsOf T≠0:=λe=>by simp_all
   cases ha with
   |@eref _ _ n _ TB s Y hT hi=>
    rw[Y]at h;split at h;case h_2=>cases h
    rename_i ax ak pv he;cases he;cases hc:(Nat.beq TB ak&&awv Γ.P TB T)with
    |false=>grind
    |true=>
     rw[hc]at h;simp only[Ad,Ac.upd.injEq,true_and]at h;obtain⟨rfl,rfl⟩:=h;simp only[Ai]at hc;have:=Ag hc.1;subst this;have ap:Γ.P.cellsOf TB=n*Γ.P.cellsOf T:=by simp_all[awv]
     obtain⟨o,U,b1,b2,b3,b4,b5⟩:=hw.box k TB _ Y;obtain⟨a1,a2,a3,a4,a5⟩:=ape hT b5 b2;have O:=aa9 hx T e2;have M:xv.cells.toList.length=Γ.P.cellsOf T:=by
      cases ag:aah Γ.P T with
      |true=>exact O.aggLen ag
      |false=>
       rcases e5 with h'|h'
       ·grind
       ·obtain⟨u,hu⟩:=O.single ag;grind[Nat.eq_of_beq_eq_true]
     have Z:(i+1)*Γ.P.cellsOf T<=n*Γ.P.cellsOf T:=Au _ (by omega);rw[Nat.add_mul]at Z;have V:i*Γ.P.cellsOf T+xv.cells.toList.length<=o.length:=by omega
     obtain⟨aj,W,X⟩:=aay aa;have J:=run_storeCells_at Γ.P (μ k) (i*Γ.P.cellsOf T) U xv.cells.toList 0 o.toArray w b1 (by omega) O.oneCell;simp only[Nat.add_zero,List.toList_toArray]at J;have I:(w.setRow (μ k) (abe o (i*Γ.P.cellsOf T) xv.cells.toList).toArray).heap[μ k]?=some (.cells (abe o (i*Γ.P.cellsOf T) xv.cells.toList).toArray U (0,0)):=setRow_heap w (μ k) o.toArray _ U _ b1;have ah:aah Γ.P TB=true:=by simp[aah,hT]
     have r1:SRep Γ.P D w ow μ st (.data TB (.agg (pv.parts.set i (toPV x)))) (pack Γ.P TB (abe o (i*Γ.P.cellsOf T) xv.cells.toList)):=by
      simp only[pack,ah,A8];refine .data ah (.arr hT (by grind[abz]) (λc t=>?_) (by grind) (λm y hm=>?_))
      ·unfold abe at t;simp only[Bm]at t;rcases t with(t|t)|t
       ·grind
       ·exact O.oneCell c t
       grind
      ·by_cases af:m=i
       ·grind[List.getElem?_set_self,art]
       ·rw[Ay (by omega)]at hm;rw[adz V]
        ·grind
        ·rw[M];rcases Nat.lt_or_gt_of_ne af with h'|h'
         ·have:(m+1)*Γ.P.cellsOf T<=i*Γ.P.cellsOf T:=Au _ (by omega);grind
         ·have:(i+1)*Γ.P.cellsOf T<=m*Γ.P.cellsOf T:=Au _ (by omega);grind
     obtain⟨q1,q2⟩:=hw.setBox Y I (by grind[abz]) (λb H=>setRow_other w (μ k) b _ H) (by simp) rfl rfl rfl r1;refine⟨w.setRow (μ k) (abe o (i*Γ.P.cellsOf T) xv.cells.toList).toArray,?_,Go.undef,_,D,ow,μ,Or.inr ⟨rfl,rfl⟩,q1,q2,.undef⟩;have ab:xv.cells.size=Γ.P.cellsOf T:=by omega
     simp only[Instr.storeAt,Instr.sureAddr,Sem.run_bind,Sem.run_pure,Result.andThen_ok,storeVar,aax W X,ab,ne_eq,not_true_eq_false,A9];exact J
 ·rename_i k g i E path U;cases H:(Nat.beq T U&&aa7 Γ.P E&&afl Γ.P T x&&!(Nat.beq (Γ.P.cellsOf T) 0))with
  |false=>grind
  |true=>
   rw[H]at h;simp only[Ad]at h;simp only[Ai,aa7,Bool.not_eq_true',A7]at H;obtain⟨⟨⟨am,⟨ay,az⟩,an⟩,ao⟩,aA⟩:=H;have:=Ag am;subst this;have aa:Γ.P.cellsOf T≠0:=λe=>by simp_all
   split at h;case h_2=>cases h
   rename_i xs al;have ae:=ab1 al;split at h;case h_2=>cases h
   rename_i y hg;cases hy:isOf Γ.P E y with
   |false=>grind
   |true=>
   rw[hy]at h;simp only[Ad,Ac.upd.injEq,true_and]at h;obtain⟨rfl,rfl⟩:=h;cases ha with
   |arefOld Y hg=>grind
   |@aref _ _ _ off _ _ _ aD G Y hi hp hc ho=>
    rw[ae]at Y;cases Y;obtain⟨a1,a2,a3⟩:=a2g hw ae hi hc;obtain⟨f1,f2,f3⟩:=ae1 hx ao;have Z:=a1;rw[Nat.add_mul]at Z;have M:((G.toList.drop (i*Γ.P.cellsOf E)).take (Γ.P.cellsOf E)).length=Γ.P.cellsOf E:=by simp;omega
    obtain⟨r1,r2⟩:=amj path E _ _ off T x xv.cells.toList y (a3.ofPV (ow:=ow) (μ:=μ) (st:=st)) M hp (by grind) f1 f2 hg;rw[M]at r2;obtain⟨aj,W,X⟩:=aay aa;have V:i*Γ.P.cellsOf E+off+xv.cells.toList.length<=G.toList.length:=by grind
    have J:=run_storeCells_at Γ.P (μ k) (i*Γ.P.cellsOf E+off) E xv.cells.toList 0 G w hc (by omega) f2;simp only[Nat.add_zero,List.toList_toArray]at J;have I:(w.setRow (μ k) (abe G.toList (i*Γ.P.cellsOf E+off) xv.cells.toList).toArray).heap[μ k]?=some (.cells (abe G.toList (i*Γ.P.cellsOf E+off) xv.cells.toList).toArray E (0,0)):=setRow_heap w (μ k) G _ E _ hc;have aC:=aa9 r1 E hy;have au:xs.length*Γ.P.cellsOf E<=G.size/\∀(j:Nat)(z:PV),xs[j]?=some z->Rep Γ.P D w E z ((G.toList.drop (j*Γ.P.cellsOf E)).take (Γ.P.cellsOf E)):=by rcases hw.obj k _ ae with h0|⟨aw,q1,q2,q3,q4,q5⟩;all_goals simp_all
    have av:(abe G.toList (i*Γ.P.cellsOf E+off) xv.cells.toList).toArray.size=G.size:=by grind[abz]
    have aq:∀(m:Nat)(z:PV),(xs.set i (toPV y))[m]?=some z->Rep Γ.P D w E z ((((abe G.toList (i*Γ.P.cellsOf E+off) xv.cells.toList).toArray).toList.drop (m*Γ.P.cellsOf E)).take (Γ.P.cellsOf E)):=by
     intro m z hm;have ai:off+xv.cells.toList.length<=Γ.P.cellsOf E:=by omega
     by_cases af:m=i
     ·subst af;rw[List.getElem?_set_self hi]at hm;cases hm;simp only;rw[amk (by simp;omega) ai];have aB:(pack Γ.P E (abe ((G.toList.drop (m*Γ.P.cellsOf E)).take (Γ.P.cellsOf E)) off xv.cells.toList)).cells.toList=abe ((G.toList.drop (m*Γ.P.cellsOf E)).take (Γ.P.cellsOf E)) off xv.cells.toList:=by
       have ar:(abe ((G.toList.drop (m*Γ.P.cellsOf E)).take (Γ.P.cellsOf E)) off xv.cells.toList).length=Γ.P.cellsOf E:=by grind[abz]
       refine ang (an.imp id (λh=>ar.trans (Ag h))) (λc t=>?_);unfold abe at t;simp only[Bm]at t;rcases t with(t|t)|t
       ·exact a3.oneCell c (List.mem_of_mem_take t)
       ·simp[*]
       ·exact a3.oneCell c (List.mem_of_mem_drop t)
      grind
     ·rw[Ay (by omega)]at hm;simp only;rw[adz V]
      ·grind
      ·rcases Nat.lt_or_gt_of_ne af with h'|h'
       ·have:(m+1)*Γ.P.cellsOf E<=i*Γ.P.cellsOf E:=Au _ (by omega);grind
       ·have:(i+1)*Γ.P.cellsOf E<=m*Γ.P.cellsOf E:=Au _ (by omega);grind
    obtain⟨q1,q2⟩:=hw.setArr (xs':=xs.set i (toPV y)) ae hc ho a2 I av (by simp) (λb H=>setRow_other w (μ k) b _ H) (by simp) rfl rfl rfl ⟨by grind,aq⟩;refine⟨w.setRow (μ k) (abe G.toList (i*Γ.P.cellsOf E+off) xv.cells.toList).toArray,?_,Go.undef,_,D,ow,μ,Or.inr ⟨rfl,rfl⟩,q1,q2,.undef⟩;have ab:xv.cells.size=Γ.P.cellsOf T:=by omega
    simp only[Instr.storeAt,Instr.sureAddr,Sem.run_bind,Sem.run_pure,Result.andThen_ok,storeVar,aax W X,ab,ne_eq,not_true_eq_false,A9];exact J
 ·simp at h
theorem av9(O:WRel Γ D ow μ st w)(T:TypeId)(a x:SV)(t xv:Value)(v:SV)(st':List BX)(ha:SRep Γ.P D w ow μ st a t)(hx:SRep Γ.P D w ow μ st x xv)(h:aep Γ.P T st a x=.upd true v st'):∃w',(Instr.storeAt T t xv).run Γ.P w=.ok () w'/\OpRes Γ D ow μ st w (.ok .skip w') v st':=by
 unfold aep at h;split at h
 ·split at h
  ·rename_i k g i E p T0 T1 j hj;split at h
   ·rename_i W Y ae hk;cases hb:Nat.beq j k with
    |true=>grind
    |false=>
     rw[hb]at h;simp only[Af]at h;obtain⟨Z,m⟩:=O.freezeRow hk;have I:=aji (fz:=[j]) O hx (λU aa=>by grind);have m2:Moves (ad0 D ow μ st [j]) w ow μ st (ad0 D ow μ st [j]) w (aqy ow j) μ (st.set j (.arr W (Y+1) [])):=⟨λ_ _ d=>d,Keeps.refl _ _,m.box,m.map,m.obj,m.arr,λU X e=>by obtain⟨g2,e2,ab,hs⟩:=m.acc U X e;grind⟩
     obtain⟨w',o,u,w2,V,J,M,hr,H,z,G⟩:=ak2 Z T _ _ t xv v st' (ha.mono m) (I.mono m2) h;exact⟨w',o,u,w2,V,J,M,hr,H,m.trans z,G⟩
   ·cases h
  grind[ak2]
 grind[ak2]
theorem avc(z:WRel Γ D ow μ st w)(T K E:TypeId):∃u w',(Instr.makeMap T none).run Γ.P w=.ok u w'/\OpRes Γ D ow μ st w (.ok (.value u) w') (.mref st.length) (st++[.map K E []]):=by
 have J:∀o,¬D w.heap.size o:=λo d=>by have:=z.dlt _ _ d;omega
 obtain⟨G,H⟩:=z.newOwn (.map #[] 0) (.map K E []) (λm=>
  ⟨#[],0,λ_=>[],λ_=>[],by grind[aaf,aaw],by rw[aaf,aaf],by grind[aaf],rfl,λi x t=>by simp at t,λi x t=>by simp at t,⟨λi e I=>by simp at I,BornOk.nil⟩,AtIdx.nil⟩)
 refine⟨.map (some w.heap.size),w.alloc (.map #[] 0),by rfl,_,_,_,_,_,Or.inl rfl,G,H,?_⟩;have:=SRep.mref (P:=Γ.P) (D:=D) (w:=w.alloc (.map #[] 0)) (ow:=upd ow w.heap.size (some st.length)) (μ:=upd μ st.length w.heap.size) (st:=st++[.map K E []]) (k:=st.length) (K:=K) (E:=E) (es:=[])
  (by grind)
 grind[aaf]
theorem a9f(Y:WRel Γ D ow μ st w){η:Operand->Value}{Z:Operand->SV}(W:∀x,SRep Γ.P D w ow μ st (Z x) (η x))(o:Oper){k:Nat}{v:SV}{b:BX}{st':List BX}(h:extV Γ.P o.op Z k=some (v,b))(J:at8 Γ.np st k b st'):
 OpRes Γ D ow μ st w ((execOp η o).run Γ.P w) v st':=by
 have hD:∀o,¬D w.heap.size o:=λo d=>by have:=Y.dlt _ _ d;omega
 have O:∀T,b=.bld T []->v=.bref k T->∀r:Result Next,r=.ok (.value (.pointer (some ⟨w.heap.size,0,none⟩))) (w.alloc (.cells #[.pointer none,.slice none 0 0] T))->OpRes Γ D ow μ st w r v st':=by
  intro T G X r hr;subst G;subst X;obtain⟨V,I,M⟩:=Y.newOwnAt (.cells #[.pointer none,.slice none 0 0] T) (.bld T []) (λm=>show BldRep _ _ _ _ _ _ _ _ from
   ⟨.pointer none,.slice none 0 0,by grind[aaf,aaw],Or.inl rfl,by rw[aaf,aaf],by grind[aaf],Or.inl ⟨rfl,rfl⟩⟩) J
  refine⟨_,_,_,_,_,Or.inl hr,I,M,?_⟩;have:=SRep.bref (P:=Γ.P) (D:=D) (w:=w.alloc (.cells #[.pointer none,.slice none 0 0] T)) (ow:=upd ow w.heap.size (some k)) (μ:=upd μ k w.heap.size) (k:=k) (T:=T) (TB:=T) (bs:=[]) V;grind[aaf]
 have U:∀T s,b=.box T s->v=.ref k [] T->∀(t:List Value),t.length=Γ.P.cellsOf T->SRep Γ.P D w ow μ st s (pack Γ.P T t)->∀r:Result Next,r=.ok (.value (.pointer (some ⟨w.heap.size,0,none⟩))) (w.alloc (.cells t.toArray T))->OpRes Γ D ow μ st w r v st':=by
  intro T s G X t hl hs r hr;subst G;subst X;obtain⟨V,I,M⟩:=Y.newOwnAt (.cells t.toArray T) (.box T s) (λm=>
   ⟨t,T,by grind[aaf,aaw],hl,by rw[aaf,aaf],by grind[aaf],hs.mono m⟩) J
  refine⟨_,_,_,_,_,Or.inl hr,I,M,?_⟩;have:=SRep.ref (P:=Γ.P) (D:=D) (w:=w.alloc (.cells t.toArray T)) (ow:=upd ow w.heap.size (some k)) (μ:=upd μ k w.heap.size) (k:=k) (path:=[]) (T:=T) (TB:=T) (v:=s) (off:=0) V rfl;grind[aaf]
 unfold extV at h
 split at h
 ·rename_i T H;cases G:aj5 Γ.P T with
  |true=>rw[G]at h;simp only[Ad,Aj,Prod.mk.injEq]at h;simp only[aj5,Ai]at G;obtain⟨i,hi,hz⟩:=anz G.2;exact O T h.2.symm h.1.symm _ (by simp_all[execOp,Instr.alloc,zeroValue,typeInfo,newVar,newRow,Value.cells])
  |false=>
   rw[G]at h;simp only[Af]at h;cases hz:acg Γ.P T with
   |false=>grind
   |true=>rw[hz]at h;simp only[Ad,Aj,Prod.mk.injEq]at h;obtain⟨i,z,hi,aa,ad,ag,ae,af,ab⟩:=abo (Γ:=Γ) (D:=D) (ow:=ow) (μ:=μ) (st:=st) (w:=w) hz;exact U T _ h.2.symm h.1.symm z.cells.toList (by omega) (by grind) _ (by simp[execOp,H,Instr.alloc,zeroValue,typeInfo,hi,aa,newVar,newRow])
 ·rename_i T x H;cases G:(aj5 Γ.P T&&an3 Γ.P 3 T (Z x))with
  |true=>rw[G]at h;simp only[Ad,Aj,Prod.mk.injEq]at h;simp only[Ai]at G;have X:=atb 3 T _ _ (W x) G.2;exact O T h.2.symm h.1.symm _ (by simp_all[execOp,Instr.box,newVar,newRow,Value.cells])
  |false=>
   rw[G]at h;simp only[Af]at h;cases hf:afl Γ.P T (Z x)with
   |false=>grind
   |true=>rw[hf]at h;simp only[Ad,Aj,Prod.mk.injEq]at h;obtain⟨I,M,h3⟩:=ae1 (W x) hf;exact U T _ h.2.symm h.1.symm (η x).cells.toList I (by grind) _ (by simp[execOp,H,Instr.box,newVar,newRow])
 ·rename_i T r H;split at h
  ·rename_i K E hT;simp only[Aj,Prod.mk.injEq]at h;obtain⟨rfl,rfl⟩:=h;obtain⟨V,I,M⟩:=Y.newOwnAt (.map #[] 0) (.map K E []) (λm=>
    ⟨#[],0,λ_=>[],λ_=>[],by grind[aaf,aaw],by rw[aaf,aaf],by grind[aaf],rfl,λi x hx=>by simp at hx,λi x hx=>by simp at hx,⟨λi e he=>by simp at he,BornOk.nil⟩,AtIdx.nil⟩) J
   refine⟨.map (some w.heap.size),w.alloc (.map #[] 0),_,_,_,Or.inl (by simp[execOp,H,Instr.makeMap]),I,M,?_⟩;have:=SRep.mref (P:=Γ.P) (D:=D) (w:=w.alloc (.map #[] 0)) (ow:=upd ow w.heap.size (some k)) (μ:=upd μ k w.heap.size) (k:=k) (K:=K) (E:=E) (es:=[]) V;grind[aaf]
  ·cases h
 ·cases h
theorem WRel.setMap(O:WRel Γ D ow μ st w){k:Nat}{K E:TypeId}{es es':List (PV×PV)}(M:st[k]?=some (.map K E es)){w':World}{ents:Array MapEntry}{clock:Nat}{kc vc:Nat->List Value}
 (hh:w'.heap[μ k]?=some (.map ents clock)) (hl:ents.size=es'.length) (ho:∀b,b≠μ k->w'.heap[b]?=w.heap[b]?) (H:w'.heap.size=w.heap.size)
 (z:w'.os=w.os) (I:w'.tape=w.tape) (G:w'.output=w.output)
 (V:∀(i:Nat)(x:PV×PV),es'[i]?=some x->Rep Γ.P D w K x.1 (kc i)) (W:∀(i:Nat)(x:PV×PV),es'[i]?=some x->Rep Γ.P D w E x.2 (vc i))
 (X:a2c Γ.P K E kc vc ents clock) (Y:AtIdx ents clock):
 WRel Γ D ow μ (st.set k (.map K E es')) w'/\Moves D w ow μ st D w' ow μ (st.set k (.map K E es')):=by
 obtain⟨t,o,aa,ab,b1,J,U,_⟩:=O.map k K E es M
 exact O.setB (.map K E es') M ⟨rfl,_,rfl⟩ (Or.inr (by simp)) (λb Z=>ho b λe=>Z (e▸J)) H z I G λm=>⟨ents,clock,kc,vc,hh,J,U,hl,λi x a=>(V i x a).mono m.dom m.keeps,λi x a=>(W i x a).mono m.dom m.keeps,X,Y⟩
theorem a3b{d:TypeDesc}{x y:PV}{a b:Value}(H:Key1 d x a)(z:Key1 d y b)(h:aef y x=true):a=b:=by
 cases H with
 |str s o=>subst o;cases z with
  |str t _=>simp[aef]at h;subst h;rfl
  |int _ _ h=>cases h
  |bool _ h=>cases h
 |int k n o=>subst o;cases z with
  |int I m G=>cases G;simp[aef]at h;subst h;rfl
  |str _ h=>cases h
  |bool _ h=>cases h
 |bool p o=>subst o;cases z with
  |bool q _=>simp[aef]at h;subst h;rfl
  |int _ _ h=>cases h
  |str _ h=>cases h
theorem axo{d:TypeDesc}{x:PV}{a:Value}(m:Key1 d x a)(n:Nat):Instr.sameBits n a a=true:=by cases m<;>simp[Instr.sameBits,a2j]
theorem bak{P:Program}:∀{n:Nat}{z:List Field}{xs:List PV}{cs:List Value},KeysL P n z xs cs->∀{ys:List PV}{es:List Value},KeysL P n z ys es->aqf ys xs=true->cs=es:=by
 intro n z xs cs h;induction h with
 |nil n=>intro ys es m _;cases m;rfl
 |@cons n f d W x xs a cs Y X I J _ U=>
  intro ys es m t;cases m with
  |@cons _ _ V _ y ys b es O M o H m=>
   rw[I]at o;cases o;simp only[aqf]at t;cases G:aef y x with
   |false=>rw[G]at t;cases t
   |true=>rw[G]at t;rw[a3b J H G,U m t]
theorem a5x{P:Program}(m:Nat):∀{n:Nat}{o:List Field}{xs:List PV}{cs:List Value},KeysL P n o xs cs->(cs.zip cs).all (λ(x,y)=>Instr.sameBits m x y)=true:=by
 intro n o xs cs h;induction h with
 |nil n=>rfl
 |cons I H G t _ z=>simp only[List.zip_cons_cons,Bb,axo t,Bool.true_and];exact z
theorem ayq{P:Program}{K:TypeId}{d:TypeDesc}{x y:PV}{a b:Value}(H:KeyIs P K d x a)(I:KeyIs P K d y b)(h:ahj y x=true)(w:World):(Instr.keyThatStays a b).run P w=.ok b w/\a=b:=by
 have J:∀{t:Array Field}{x:PV}{a:Value},Key1 (.struct t) x a->False:=λh=>by cases h<;>rename_i h<;>cases h
 have e:a=b:=by
  cases H with
  |one m=>
   cases I with
   |one o=>
    have O:ahj y x=aef y x:=by cases o<;>rfl
    rw[O]at h;exact a3b m o h
   |agg t _ _ o=>subst o;exact absurd m (λh=>J h)
  |agg t xs cs m o z=>
   subst m;cases I with
   |one G=>exact absurd G (λh=>J h)
   |agg M ys es G W U=>cases G;rw[bak z U h]
 subst e;refine⟨?_,rfl⟩;have V:Instr.sameBits 10000 a a=true:=by
  cases H with
  |one m=>exact axo m _
  |agg t xs cs m o z=>have:=a5x 9999 z;simp only[Instr.sameBits,List.toList_toArray,Az,Bool.true_and];exact this
 simp[Instr.keyThatStays,V]
theorem air(hw:WRel Γ D ow μ st w)(T:TypeId)(m k x:SV)(mv I xv:Value)(v:SV)(st':List BX)(hm:SRep Γ.P D w ow μ st m mv)(hk:SRep Γ.P D w ow μ st k I)(hx:SRep Γ.P D w ow μ st x xv)
 (h:ab4 Γ.P T st m k x=.upd true v st'):∃w',(Instr.mapUpdate T mv I xv).run Γ.P w=.ok () w'/\OpRes Γ D ow μ st w (.ok .skip w') v st':=by
 unfold ab4 at h
 split at h
 ·rename_i K E hT;cases hc:(keyT Γ.P K&&isOf Γ.P K k&&isOf Γ.P E x)with
  |false=>rw[hc]at h;simp at h
  |true=>
   rw[hc]at h;simp only[Ad]at h;simp only[Ai]at hc;obtain⟨⟨c1,c2⟩,c3⟩:=hc;split at h
   ·rename_i j;split at h
    ·rename_i K' E' es hj;cases M:(Nat.beq K K'&&Nat.beq E E')with
     |false=>rw[M]at h;simp at h
     |true=>
      rw[M]at h;simp only[Ai]at M;have:=Ag M.1;subst this;have:=Ag M.2;subst this;simp only[Ad,Ac.upd.injEq,true_and]at h;obtain⟨rfl,rfl⟩:=h;cases hm;obtain⟨ents,clock,kc,vc,r1,r2,r3,r4,r5,r6,Z,r8⟩:=hw.map j K E es hj;have af:=aa9 hk K c2;have ad:=agl hk c2;have ag:=aa9 hx E c3;have ae:=agl hx c3;obtain⟨d,Y,H⟩:=ahk c1 af;rw[ad]at H;have U:∀(i:Nat)(e:MapEntry)(y:PV×PV),ents.toList[i]?=some e->es[i]?=some y->KeyIs Γ.P K d y.1 e.key:=by intro i e y he hy;obtain⟨d',aa,aj⟩:=ahk c1 (r5 i y hy);rw[Y]at aa;cases aa;rw[(Z.1 i e (by simpa using he)).1];exact aj
      have ab:μ j<w.heap.size:=(hw.owlt _ _ r2).1;rcases am4 Y H ents.toList es 0 (by simpa using r4) U with⟨i,y,e,q1,q2,q3,q4,q5,q6,_⟩|⟨q1,q2,q6,_⟩
      ·have O:ents[i]?=some e:=by simpa using q2
       have ah:=U i e y q2 q1;obtain⟨s1,s2⟩:=ayq ah H q3 w;have V:∀(n:Nat),(ents.modify i λe=>{ e with key:=I,val:=xv })[n]?=if n=i then some { e with key:=I,val:=xv }else ents[n]?:=by
        intro n;rw[Array.getElem?_modify];by_cases o:i=n
        ·subst o;simp[O]
        ·rw[if_neg o,if_neg (λh=>o h.symm)]
       refine⟨{ w with heap:=w.heap.setIfInBounds (μ j) (.map (ents.modify i λe=>{ e with key:=I,val:=xv }) clock) },?_,?_⟩
       ·simp only[Nat.zero_add]at q5;have ai:((ents[i]?).map (·.key)).getD I=e.key:=by rw[O];rfl
        simp only[Instr.mapUpdate,Sem.run_bind,run_underlying hT,Result.andThen_ok,getObj,Sem.run,r1,ac5 Y H,adw Y q5,ai,s1,setObj]
       ·rw[q6];have J:=hw.setMap hj (w':={ w with heap:=w.heap.setIfInBounds (μ j) (.map (ents.modify i λe=>{ e with key:=I,val:=xv }) clock) }) (ents:=ents.modify i λe=>{ e with key:=I,val:=xv }) (clock:=clock)
         (es':=es.set i (y.1,toPV x)) (kc:=kc) (vc:=upd vc i xv.cells.toList) (by simp[ab]) (by simpa using r4) (λb M=>by simp[Array.getElem?_setIfInBounds_ne (λe=>M e.symm)]) (by simp) rfl rfl rfl
        refine(λh1 h2 h3 h4=>by obtain⟨u1,u2⟩:=J h1 h2 h3 h4;exact⟨_,_,_,_,_,Or.inr ⟨rfl,rfl⟩,u1,u2,.undef⟩) (λn z t=>?_) (λn z t=>?_) (And.intro (λn f G=>?_) (Z.2.same ?hs)) (r8.same Array.size_modify ?hs)
        ·by_cases o:n=i
         ·subst o;rw[List.getElem?_set_self (A6.1 q1).1]at t;cases t;exact r5 n y q1
         ·rw[Ay (by omega)]at t;exact r5 n z t
        ·by_cases o:n=i
         ·subst o;rw[List.getElem?_set_self (A6.1 q1).1]at t;cases t;rw[aaf];exact ag
         ·rw[Ay (by omega)]at t;rw[abu _ _ o];exact r6 n z t
        ·rw[V]at G;by_cases o:n=i
         ·subst o;rw[if_pos rfl]at G;cases G;refine⟨?_,by rw[aaf];exact ae.symm⟩;show I=_;rw[<-s2];exact(Z.1 n e O).1
         ·rw[if_neg o]at G;rw[abu _ _ o];exact Z.1 n f G
        case hs=>
         intro n f G
         rw[V]at G
         by_cases o:n=i
         ·subst o;rw[if_pos rfl]at G;cases G;exact⟨e,O,rfl⟩
         ·rw[if_neg o]at G;exact⟨f,G,rfl⟩
      ·refine⟨{ w with heap:=w.heap.setIfInBounds (μ j) (.map (ents.push { key:=I,val:=xv,born:=clock }) (clock+1)) },?_,?_⟩
       ·simp only[Instr.mapUpdate,Sem.run_bind,run_underlying hT,Result.andThen_ok,getObj,Sem.run,r1,ac5 Y H,adw Y q2,setObj]
       ·rw[q6];have X:∀n,(ents.push { key:=I,val:=xv,born:=clock })[n]?=if n=ents.size then some { key:=I,val:=xv,born:=clock }else ents[n]?:=λn=>Array.getElem?_push
        have J:=hw.setMap hj (w':={ w with heap:=w.heap.setIfInBounds (μ j) (.map (ents.push { key:=I,val:=xv,born:=clock }) (clock+1)) }) (ents:=ents.push { key:=I,val:=xv,born:=clock }) (clock:=clock+1)
         (es':=es++[(toPV k,toPV x)]) (kc:=upd kc ents.size I.cells.toList) (vc:=upd vc ents.size xv.cells.toList) (by simp[ab]) (by simp[r4]) (λb M=>by simp[Array.getElem?_setIfInBounds_ne (λe=>M e.symm)]) (by simp) rfl rfl rfl
        refine(λh1 h2 h3 h4=>by obtain⟨u1,u2⟩:=J h1 h2 h3 h4;exact⟨_,_,_,_,_,Or.inr ⟨rfl,rfl⟩,u1,u2,.undef⟩) (λn z t=>?_) (λn z t=>?_) (And.intro (λn f G=>?_) (Z.2.push _ rfl)) (r8.push _ rfl)
        ·by_cases o:n<es.length
         ·rw[A1 o]at t;rw[abu _ _ (by omega)];exact r5 n z t
         ·have W:n=ents.size:=by have:=(A6.1 t).1;simp at this;omega
          subst W;rw[r4,A4 (Nat.le_refl _)]at t;simp at t;subst t;rw[aaf];exact af
        ·by_cases o:n<es.length
         ·rw[A1 o]at t;rw[abu _ _ (by omega)];exact r6 n z t
         ·have W:n=ents.size:=by have:=(A6.1 t).1;simp at this;omega
          subst W;rw[r4,A4 (Nat.le_refl _)]at t;simp at t;subst t;rw[aaf];exact ag
        ·rw[X]at G;by_cases o:n=ents.size
         ·subst o;rw[if_pos rfl]at G;cases G;rw[aaf,aaf];exact⟨ad.symm,ae.symm⟩
         ·rw[if_neg o]at G;rw[abu _ _ o,abu _ _ o];exact Z.1 n f G
    ·simp at h
   ·simp at h
 ·simp at h
theorem asj(hw:WRel Γ D ow μ st w)(T:TypeId)(m k:SV)(mv H:Value)(v:SV)(st':List BX)(hm:SRep Γ.P D w ow μ st m mv)(hk:SRep Γ.P D w ow μ st k H)
 (h:acn Γ.P T st m k=.upd true v st'):∃u w',(Instr.mapEntry T mv H).run Γ.P w=.ok u w'/\OpRes Γ D ow μ st w (.ok (.value u) w') v st':=by
 unfold acn at h
 split at h
 ·rename_i K E hT;cases hc:(keyT Γ.P K&&isOf Γ.P K k&&acg Γ.P E&&isOf Γ.P E (aa8 Γ.P 12 E))with
  |false=>rw[hc]at h;simp at h
  |true=>
   rw[hc]at h;simp only[Ad]at h;simp only[Ai]at hc;obtain⟨⟨⟨c1,c2⟩,c3⟩,c4⟩:=hc;split at h
   ·rename_i j;split at h
    ·rename_i K' E' es hj;cases O:(Nat.beq K K'&&Nat.beq E E')with
     |false=>rw[O]at h;simp at h
     |true=>
      rw[O]at h;simp only[Ai]at O;have:=Ag O.1;subst this;have:=Ag O.2;subst this;simp only[Ad,Ac.upd.injEq,true_and]at h;obtain⟨rfl,rfl⟩:=h;cases hm;obtain⟨ents,clock,kc,vc,r1,r2,r3,r4,r5,r6,r7,r8⟩:=hw.map j K E es hj;have af:=aa9 hk K c2;have ae:=agl hk c2;obtain⟨iz,z,hi,an,av,aw,aq,ar,au⟩:=abo (Γ:=Γ) (D:=D) (ow:=ow) (μ:=μ) (st:=st) (w:=w) c3;have ao:=aa9 ar E c4;obtain⟨d,hd,G⟩:=ahk c1 af;rw[ae]at G;have U:∀(i:Nat)(e:MapEntry)(y:PV×PV),ents.toList[i]?=some e->es[i]?=some y->KeyIs Γ.P K d y.1 e.key:=by intro i e y he hy;obtain⟨d',ab,ap⟩:=ahk c1 (r5 i y hy);rw[hd]at ab;cases ab;rw[(r7.1 i e (by simpa using he)).1];exact ap
      have ad:μ j<w.heap.size:=(hw.owlt _ _ r2).1;have ah:∀(n:Nat)(zv:Value)(D':Dom)(w':World)(ag:Own)(ai:Nat->Nat)(st':List BX),SRep Γ.P D' w' ag ai st' (.tup [.undef,.int .i64 ((n:Nat):Int)]) (.tuple #[zv,.int .i64 (n:Int)]):=by
       intro n zv D' w' ag ai st';refine .tup rfl (λi s v W hv=>?_);match i,W,hv with
       |0,W,hv=>cases W;exact .undef
       |1,W,hv=>cases W;cases hv;exact .int
      rcases am4 hd G ents.toList es 0 (by simpa using r4) U with⟨i,y,e,q1,q2,q3,q4,q5,q6,q7⟩|⟨q1,q2,q6,q7⟩
      ·have I:ents[i]?=some e:=by simpa using q2
       have ak:=U i e y q2 q1;obtain⟨s1,s2⟩:=ayq ak G q3 w;have V:∀(n:Nat),(ents.modify i λe=>{ e with key:=H })[n]?=if n=i then some { e with key:=H }else ents[n]?:=by
        intro n;rw[Array.getElem?_modify];by_cases o:i=n
        ·subst o;simp[I]
        ·rw[if_neg o,if_neg (λh=>o h.symm)]
       have X:e.born=i:=r8.2 i e I;have aj:PV.mput es (toPV k) ((PV.mget es (toPV k)).getD (toPV (aa8 Γ.P 12 E)))=es:=by
        rw[q6,q4];simp only[Option.getD_some];exact List.ext_getElem? λn=>by
         by_cases o:n=i
         ·subst o;rw[List.getElem?_set_self (A6.1 q1).1,q1]
         ·rw[Ay (by omega)]
       refine⟨.tuple #[e.val,.int .i64 (i:Int)],{ w with heap:=w.heap.setIfInBounds (μ j) (.map (ents.modify i λe=>{ e with key:=H }) clock) },?_,?_⟩
       ·simp only[Nat.zero_add]at q5;have am:((ents[i]?).map (·.key)).getD H=e.key:=by rw[I];rfl
        have al:(Option.map (λx:MapEntry=>(x.born:Int)) ents[i]?).getD 0=(i:Int):=by rw[I];simp[X]
        simp only[Instr.mapEntry,Sem.run_bind,run_underlying hT,Result.andThen_ok,getObj,Sem.run,r1,ac5 hd G,adw hd q5,am,al,s1,setObj,Sem.run_pure,goInt]
       ·rw[aj,q7];have M:=hw.setMap hj (w':={ w with heap:=w.heap.setIfInBounds (μ j) (.map (ents.modify i λe=>{ e with key:=H }) clock) }) (ents:=ents.modify i λe=>{ e with key:=H }) (clock:=clock)
         (es':=es) (kc:=kc) (vc:=vc) (by simp[ad]) (by simpa using r4) (λb O=>by simp[Array.getElem?_setIfInBounds_ne (λe=>O e.symm)]) (by simp) rfl rfl rfl
        refine(λh3 h4=>by obtain⟨u1,u2⟩:=M r5 r6 h3 h4;exact⟨_,_,_,_,_,Or.inl rfl,u1,u2,ah ..⟩) (And.intro (λn f t=>?_) (r7.2.same ?W)) (r8.same Array.size_modify ?W)
        ·rw[V]at t;by_cases o:n=i
         ·subst o;rw[if_pos rfl]at t;cases t;refine⟨?_,(r7.1 n e I).2⟩;show H=_;rw[<-s2];exact(r7.1 n e I).1
         ·rw[if_neg o]at t;exact r7.1 n f t
        case W=>
         intro n f t
         rw[V]at t
         by_cases o:n=i
         ·subst o;rw[if_pos rfl]at t;cases t;exact⟨e,I,rfl⟩
         ·rw[if_neg o]at t;exact⟨f,t,rfl⟩
      ·have aa:clock=es.length:=by rw[r8.1,r4]
       refine⟨.tuple #[z,.int .i64 (clock:Int)],{ w with heap:=w.heap.setIfInBounds (μ j) (.map (ents.push { key:=H,val:=z,born:=clock }) (clock+1)) },?_,?_⟩
       ·simp[Instr.mapEntry,run_underlying hT,getObj,Sem.run,r1,ac5 hd G,adw hd q2,zeroValue,typeInfo,hi,an,setObj,goInt]
       ·rw[q6,q7,q1];simp only[Option.getD_none];rw[<-aa];have Z:∀n,(ents.push { key:=H,val:=z,born:=clock })[n]?=if n=ents.size then some { key:=H,val:=z,born:=clock }else ents[n]?:=λn=>Array.getElem?_push
        have M:=hw.setMap hj (w':={ w with heap:=w.heap.setIfInBounds (μ j) (.map (ents.push { key:=H,val:=z,born:=clock }) (clock+1)) }) (ents:=ents.push { key:=H,val:=z,born:=clock }) (clock:=clock+1)
         (es':=es++[(toPV k,toPV (aa8 Γ.P 12 E))]) (kc:=upd kc ents.size H.cells.toList) (vc:=upd vc ents.size z.cells.toList) (by simp[ad]) (by simp[r4]) (λb O=>by simp[Array.getElem?_setIfInBounds_ne (λe=>O e.symm)]) (by simp) rfl rfl rfl
        refine(λh1 h2 h3 h4=>by obtain⟨u1,u2⟩:=M h1 h2 h3 h4;exact⟨_,_,_,_,_,Or.inl rfl,u1,u2,ah ..⟩) (λn z J=>?_) (λn z J=>?_) (And.intro (λn f t=>?_) (r7.2.push _ rfl)) (r8.push _ rfl)
        ·by_cases o:n<es.length
         ·rw[A1 o]at J;rw[abu _ _ (by omega)];exact r5 n z J
         ·have Y:n=ents.size:=by have:=(A6.1 J).1;simp at this;omega
          subst Y;rw[r4,A4 (Nat.le_refl _)]at J;simp at J;subst J;rw[aaf];exact af
        ·by_cases o:n<es.length
         ·rw[A1 o]at J;rw[abu _ _ (by omega)];exact r6 n z J
         ·have Y:n=ents.size:=by have:=(A6.1 J).1;simp at this;omega
          subst Y;rw[r4,A4 (Nat.le_refl _)]at J;simp at J;subst J;rw[aaf];exact ao
        ·rw[Z]at t;by_cases o:n=ents.size
         ·subst o;rw[if_pos rfl]at t;cases t;rw[aaf,aaf];exact⟨ae.symm,aq⟩
         ·rw[if_neg o]at t;rw[abu _ _ o,abu _ _ o];exact r7.1 n f t
    ·simp at h
   ·simp at h
 ·simp at h
theorem aoj(hw:WRel Γ D ow μ st w)(T:TypeId)(m s x:SV)(mv sv xv:Value)(v:SV)(st':List BX)(hm:SRep Γ.P D w ow μ st m mv)(X:SRep Γ.P D w ow μ st s sv)(hx:SRep Γ.P D w ow μ st x xv)
 (h:aca Γ.P T st m s x=.upd true v st'):∃w',(Instr.entryStore T mv sv xv).run Γ.P w=.ok () w'/\OpRes Γ D ow μ st w (.ok .skip w') v st':=by
 unfold aca at h
 split at h
 ·rename_i K E hT;cases W:isOf Γ.P E x with
  |false=>rw[W]at h;simp at h
  |true=>
   rw[W]at h;simp only[Ad]at h;split at h
   ·rename_i j n;split at h
    ·rename_i K' E' es hj;cases I:(Nat.beq K K'&&Nat.beq E E')with
     |false=>rw[I]at h;simp at h
     |true=>
      rw[I]at h;simp only[Ai]at I;have:=Ag I.1;subst this;have:=Ag I.2;subst this;simp only[Ad,Ac.upd.injEq]at h;obtain⟨U,rfl,rfl⟩:=h;cases hm;cases X;obtain⟨i,rfl,aa⟩:∃i:Nat,n=(i:Int)/\i<es.length:=by unfold aab at U;simp only[Ai,Ax]at U;exact⟨n.toNat,by omega,by omega⟩
      obtain⟨ents,clock,kc,vc,r1,r2,r3,r4,r5,r6,r7,r8⟩:=hw.map j K E es hj;have ae:=aa9 hx E W;have ad:=agl hx W;have ab:μ j<w.heap.size:=(hw.owlt _ _ r2).1;have M:i<ents.size:=by omega
      obtain⟨e,O⟩:∃e,ents[i]?=some e:=⟨_,Array.getElem?_eq_getElem M⟩;obtain⟨y,Y⟩:∃y,es[i]?=some y:=⟨_,Ap aa⟩;have J:ents.findIdx? (λe=>(e.born:Int)==(i:Int))=some i:=by
       rw[Array.findIdx?_eq_some_iff_getElem];refine⟨M,?_,λj' af=>?_⟩
       ·have:=r8.2 i ents[i] (Array.getElem?_eq_getElem M);simp[this]
       ·have:=r8.2 j' ents[j'] (Array.getElem?_eq_getElem (by omega));simp[this];omega
      have H:∀(n:Nat),(ents.modify i λe=>{ e with val:=xv })[n]?=if n=i then some { e with val:=xv }else ents[n]?:=by
       intro n;rw[Array.getElem?_modify];by_cases o:i=n
       ·subst o;simp[O]
       ·rw[if_neg o,if_neg (λh=>o h.symm)]
      refine⟨{ w with heap:=w.heap.setIfInBounds (μ j) (.map (ents.modify i λe=>{ e with val:=xv }) clock) },?_,?_⟩
      ·simp only[Instr.entryStore,Sem.run_bind,Result.andThen_ok,getObj,Sem.run,r1,asInt,asIntOf,Sem.run_pure,J,setObj]
      ·have Z:PV.mset es ((i:Int)).toNat (toPV x)=es.set i (y.1,toPV x):=by
        unfold PV.mset;rw[Ae,Y]
       rw[Z];have V:=hw.setMap hj (w':={ w with heap:=w.heap.setIfInBounds (μ j) (.map (ents.modify i λe=>{ e with val:=xv }) clock) }) (ents:=ents.modify i λe=>{ e with val:=xv }) (clock:=clock)
        (es':=es.set i (y.1,toPV x)) (kc:=kc) (vc:=upd vc i xv.cells.toList) (by simp[ab]) (by simpa using r4) (λb I=>by simp[Array.getElem?_setIfInBounds_ne (λe=>I e.symm)]) (by simp) rfl rfl rfl
       refine(λh1 h2 h3 h4=>by obtain⟨u1,u2⟩:=V h1 h2 h3 h4;exact⟨_,_,_,_,_,Or.inr ⟨rfl,rfl⟩,u1,u2,.undef⟩) (λn z G=>?_) (λn z G=>?_) (And.intro (λn f t=>?_) (r7.2.same ?X)) (r8.same Array.size_modify ?X)
       ·by_cases o:n=i
        ·subst o;rw[List.getElem?_set_self (A6.1 Y).1]at G;cases G;exact r5 n y Y
        ·rw[Ay (by omega)]at G;exact r5 n z G
       ·by_cases o:n=i
        ·subst o;rw[List.getElem?_set_self (A6.1 Y).1]at G;cases G;rw[aaf];exact ae
        ·rw[Ay (by omega)]at G;rw[abu _ _ o];exact r6 n z G
       ·rw[H]at t;by_cases o:n=i
        ·subst o;rw[if_pos rfl]at t;cases t;exact⟨(r7.1 n e O).1,by rw[aaf];exact ad.symm⟩
        ·rw[if_neg o]at t;rw[abu _ _ o];exact r7.1 n f t
       case X=>
        intro n f t
        rw[H]at t
        by_cases o:n=i
        ·subst o;rw[if_pos rfl]at t;cases t;exact⟨e,O,rfl⟩
        ·rw[if_neg o]at t;exact⟨f,t,rfl⟩
    ·simp at h
   ·simp at h
 ·simp at h
end
end Go.Ab
