/- Composite literals. -/
import Derived.Test.YticdffgjgfmicaaGreatDoorAbAppend
set_option linter.unusedVariables false
set_option linter.unusedSimpArgs false
set_option linter.unnecessarySimpa false
namespace Go.Ab
open Go
theorem aze(off:Nat):∀(xs:List Value)(s:Nat)(m:Array Value),off+s+xs.length<=m.size->
 ((xs.zipIdx s).foldl (λcs(p:Value×Nat)=>cs.setIfInBounds (off+p.2) p.1) m).toList=abb m.toList (off+s) xs:=by
 intro xs
 induction xs with
 |nil=>simp_all[abb]
 |cons x r o=>
  intro s m h
  simp only[Al]at h
  simp only[List.zipIdx_cons,List.foldl_cons]
  rw[o (s+1) _ (by simp;omega),Array.toList_setIfInBounds]
  apply List.ext_getElem?
  grind[ajl]
theorem aid(off:Nat)(v m:Array Value)(h:off+v.size<=m.size):
 v.zipIdx.foldl (λcs(p:Value×Nat)=>cs.setIfInBounds (off+p.2) p.1) m=(abb m.toList off v.toList).toArray:=by
 rw[<-Array.foldl_toList]
 have:=aze off v.toList 0 m (by simp[*])
 grind
section
variable{Γ:Ctx}{D:Dom}{ow:Own}{μ:Nat->Nat}{st:List BX}{w:World}
theorem a5t(m:List Field)(h:∀f,f∈m->Γ.P.cellsOf f.type≠0):(m.mapM λf=>(do pure (f.offset,<-sizeOf f.type):Sem (Nat×Nat))).run Γ.P w=.ok (m.map λf=>(f.offset,Γ.P.cellsOf f.type)) w:=by
 induction m with
 |nil=>simp
 |cons f r z=>obtain⟨i,o,t⟩:=aay (h f (by simp));simp_all[List.mapM_cons,Sem.run_bind,aax,Result.andThen_ok,Sem.run_pure,Bl]
theorem a4b(T:TypeId)(U:Array Field)(hT:Γ.P.underlying T=some (.struct U))(hL:Laid Γ.P T U):∀(ps:List (Nat×SV))(O:List (Nat×Value))(I t:List SV)(m:Array Value),
 ps.length=O.length->(∀(n i:Nat)(s:SV)(j:Nat)(v:Value),ps[n]?=some (i,s)->O[n]?=some (j,v)->i=j/\SRep Γ.P D w ow μ st s v)->
 (∀p,p∈ps->aok Γ.P U p=true)->SRep Γ.P D w ow μ st (.agg T I) (.agg m)->aeu I ps=some t->
 ∃o,Instr.fill (λi=>(U.map λf=>(f.offset,Γ.P.cellsOf f.type))[i]?) m O=some o/\SRep Γ.P D w ow μ st (.agg T t) (.agg o):=by
 intro ps
 induction ps with
 |nil=>
  intro O I t m hl _ _ Y J
  have:O=[]:=A4 (by grind)
  subst this
  simp[aeu]at J;subst J
  exact⟨m,rfl,Y⟩
 |cons p r ih=>
  intro O I t m hl G H Y J
  cases O with
  |nil=>simp at hl
  |cons q vr=>
   obtain⟨i,s⟩:=p
   obtain⟨j,v⟩:=q
   obtain⟨ad,ag⟩:=G 0 i s j v rfl rfl
   subst ad
   have z:=H (i,s) (by simp)
   simp only[aok]at z
   cases X:U[i]? with
   |none=>grind
   |some f=>
    rw[X]at z
    simp only at z
    obtain⟨f1,f2,f3⟩:=aew ag z
    unfold aeu at J
    cases ae:Nat.blt i I.length with
    |false=>grind
    |true=>
     rw[ae]at J
     simp only[Ad]at J
     generalize aj:Value.agg m=cv at Y
     cases Y with
     |@agg _ ai _ cs V al am ao an=>
      rw[abi hT]at V;cases V
      have aa:m=cs.toArray:=by grind
      subst aa
      have ak:=hL.inside i f X
      have ap:v.cells.toList.length=Γ.P.cellsOf f.type:=f1
      have M:f.offset+v.cells.toList.length<=cs.length:=by omega
      have ah:v.cells.size=Γ.P.cellsOf f.type:=by omega
      have ab:=aid f.offset v.cells cs.toArray (by simp;omega)
      have W:SRep Γ.P D w ow μ st (.agg T (I.set i s)) (.agg (abb cs f.offset v.cells.toList).toArray):=by
       refine .agg (abi hT) (by grind[abx]) ?_ (by simp[*]) (λn x g hn hg=>?_)
       ·grind[abb,List.mem_of_mem_take,List.mem_of_mem_drop]
       ·by_cases af:n=i
        ·grind[List.getElem?_set_self,Nat.le_of_ble_eq_true,aq4]
        ·rw[Ay (by omega)]at hn;rw[adw M]
         ·grind
         ·rcases Nat.lt_or_gt_of_ne af with Z|Z
          ·have:=hL.apart n i g f hg X Z;omega
          ·have:=hL.apart i n f g X hg Z;omega
      obtain⟨o,r1,r2⟩:=ih vr (I.set i s) t _ (by grind) (λn a b c d h1 h2=>G (n+1) a b c d (by simp[*]) (by simp[*])) (λp hp=>H p (by simp[hp])) W J
      grind[Instr.fill]
def a6g(P:Program)(D:Dom)(w:World)(E:TypeId)(xs:List PV)(L:List Value):Prop:=
 L.length=xs.length*P.cellsOf E/\(∀c,c∈L->c.oneCell'=true)/\∀(i:Nat)(x:PV),xs[i]?=some x->Rep P D w E x ((L.drop (i*P.cellsOf E)).take (P.cellsOf E))
theorem aic(E:TypeId)(n:Nat):∀(ps:List (Nat×SV))(O:List (Nat×Value))(xs:List PV)(o:Array Value),
 ps.length=O.length->(∀(m i:Nat)(s:SV)(j:Nat)(v:Value),ps[m]?=some (i,s)->O[m]?=some (j,v)->i=j/\SRep Γ.P D w ow μ st s v)->
 (∀p,p∈ps->afm Γ.P n E p=true)->(∀p,p∈ps->∀v,SRep Γ.P D w ow μ st p.2 v->v.cells.toList.length=Γ.P.cellsOf E)->xs.length=n->a6g Γ.P D w E xs o.toList->
 ∃t,Instr.fill (λi=>some (i*Γ.P.cellsOf E,Γ.P.cellsOf E)) o O=some t/\(adu xs ps).length=n/\a6g Γ.P D w E (adu xs ps) t.toList:=by
 intro ps
 induction ps with
 |nil=>
  intro O xs o hl _ _ _ hn hs
  have:O=[]:=A4 (by grind)
  subst this
  exact⟨o,rfl,hn,hs⟩
 |cons p r ih=>
  intro O xs o hl z G H hn hs
  cases O with
  |nil=>simp at hl
  |cons q vr=>
   obtain⟨i,s⟩:=p
   obtain⟨j,v⟩:=q
   obtain⟨Y,W⟩:=z 0 i s j v rfl rfl
   subst Y
   have J:=G (i,s) (by simp)
   simp only[afm,Ai]at J
   have ae:i<n:=At J.1
   have V:=aa6 W E J.2
   have aa:v.cells.toList.length=Γ.P.cellsOf E:=H (i,s) (by simp) v W
   have ad:v.cells.size=Γ.P.cellsOf E:=by omega
   obtain⟨e1,e2,e3⟩:=hs
   have U:(i+1)*Γ.P.cellsOf E<=n*Γ.P.cellsOf E:=Av _ (by omega)
   rw[Nat.add_mul]at U
   have M:i*Γ.P.cellsOf E+v.cells.toList.length<=o.toList.length:=by grind
   have X:=aid (i*Γ.P.cellsOf E) v.cells o (by grind)
   have ab:a6g Γ.P D w E (xs.set i (toPV s)) (abb o.toList (i*Γ.P.cellsOf E) v.cells.toList):=by
    refine⟨by grind[abx],?_,λm x hm=>?_⟩
    ·intro c I;unfold abb at I;simp only[Bm]at I;rcases I with(I|I)|I
     ·grind
     ·exact V.oneCell c I
     grind
    ·by_cases Z:m=i
     ·grind[List.getElem?_set_self,aq4]
     ·rw[Ay (by omega)]at hm;rw[adw M]
      ·simp[*]
      ·rw[aa];rcases Nat.lt_or_gt_of_ne Z with h'|h'
       ·have:(m+1)*Γ.P.cellsOf E<=i*Γ.P.cellsOf E:=Av _ (by omega);grind
       ·have:(i+1)*Γ.P.cellsOf E<=m*Γ.P.cellsOf E:=Av _ (by omega);grind
   obtain⟨t,r1,r2,r3⟩:=ih vr (xs.set i (toPV s)) (abb o.toList (i*Γ.P.cellsOf E) v.cells.toList).toArray (by grind) (λm a b c d h1 h2=>z (m+1) a b c d (by simp[*]) (by simp[*])) (λp hp=>G p (by simp[hp])) (λp hp=>H p (by simp[hp])) (by simp[*]) (by simp[*])
   refine⟨t,?_,r2,r3⟩
   grind[Instr.fill]
theorem avs{P:Program}{n:Nat}{T m:TypeId}{o:Array Field}{zs:List SV}(t:P.underlying T=some (.struct o))(h:aa7 P (n+1) T=.agg m zs):m=T:=by grind[aa7]
theorem a6c{P:Program}{n k:Nat}{T m E:TypeId}{z:PV}(o:P.underlying T=some (.array k E))(h:aa7 P (n+1) T=.data m z):m=T:=by grind[aa7,arrF]
theorem ayt(T:TypeId)(ps:List (Nat×SV))(vs:Array (Nat×Value))(v:SV)(hl:ps.length=vs.size)(H:∀(n i:Nat)(s:SV)(j:Nat)(u:Value),ps[n]?=some (i,s)->vs[n]?=some (j,u)->i=j/\SRep Γ.P D w ow μ st s u)(h:aka Γ.P T ps=.val true v):
 ∃u,(Instr.build T vs).run Γ.P w=.ok u w/\SRep Γ.P D w ow μ st v u:=by
 unfold aka at h
 split at h
 ·rename_i n E V zs G hz;cases M:(aca Γ.P T&&aa5 Γ.P E&&Nat.beq (Γ.P.cellsOf T) (n*Γ.P.cellsOf E)&&ps.all (afm Γ.P n E))with
  |false=>grind
  |true=>
   rw[M]at h;simp only[Ad,Ac.val.injEq,true_and]at h;subst h;simp only[Ai,aa5,Bool.not_eq_true',A7]at M;obtain⟨⟨⟨c1,⟨c2,ar⟩,ad⟩,W⟩,c4⟩:=M;have W:=Ag W;have ah:Γ.P.cellsOf E≠0:=λh0=>by grind
   obtain⟨ie,ae,al⟩:=aay ah;obtain⟨aq,z,hi,O,af,ao,am,t,an⟩:=abo (Γ:=Γ) (D:=D) (ow:=ow) (μ:=μ) (st:=st) (w:=w) c1;have J:V=T:=a6c G hz;subst J;rw[hz]at t;have ha:aag Γ.P V=true:=by simp[aag,G]
   have Z:a6g Γ.P D w E zs z.cells.toList/\zs.length=n:=by
    generalize ap:z=zz at t;cases t with
    |data _ hr=>
     cases hr with
     |agg I=>grind
     |arr I ag ai ab ak=>rw[G]at I;cases I;simp only[ap,Value.cells];exact⟨⟨by rw[ag,W,ab],ai,ak⟩,ab⟩
   obtain⟨o,r1,r2,r3⟩:=aic (Γ:=Γ) (D:=D) (w:=w) (ow:=ow) (μ:=μ) (st:=st) E n ps vs.toList zs z.cells (by simp[*]) (λm i s j u h1 h2=>H m i s j u h1 (by grind)) (λp hp=>Be.1 c4 p hp)
    (λp hp v hv=>by
     have hf:=Be.1 c4 p hp;simp only[afm,Ai]at hf;have hr:=aa6 hv E hf.2;cases Y:aag Γ.P E with
     |true=>exact hr.aggLen Y
     |false=>
      rcases ad with h'|h'
      ·grind
      ·obtain⟨u,hu⟩:=hr.single Y;grind[Nat.eq_of_beq_eq_true]) Z.2 Z.1
   obtain⟨e1,e2,e3⟩:=r3;refine⟨.agg o,by simp only[Instr.build,Sem.run_bind,zeroValue,typeInfo,run_program,Result.andThen_ok,hi,Sem.run_pure,O,run_underlying G,aax ae al,r1],?_⟩;have:=SRep.data (P:=Γ.P) (D:=D) (w:=w) (ow:=ow) (μ:=μ) (st:=st) (T:=V) (v:=.agg (adu zs ps)) (cs:=o.toList) ha (.arr G (by rw[e1,r2,W]) e2 r2 e3);simp[*]
 ·rename_i X V zs G hz;cases M:(aca Γ.P T&&acq Γ.P T&&ps.all (aok Γ.P X))with
  |false=>grind
  |true=>
   rw[M]at h;simp only[Ad]at h;simp only[Ai]at M;obtain⟨⟨c1,c2⟩,W⟩:=M;have hL:=acr c2 (abi G);cases hb:aeu zs ps with
   |none=>grind
   |some fs=>
    rw[hb]at h;simp only[Ac.val.injEq,true_and]at h;subst h;obtain⟨aq,z,hi,O,af,ao,am,t,an⟩:=abo (Γ:=Γ) (D:=D) (ow:=ow) (μ:=μ) (st:=st) (w:=w) c1;have J:V=T:=avs G hz;subst J;rw[hz]at t;have U:z=.agg z.cells:=by grind[aag,pack,Value.cells]
    rw[U]at t;obtain⟨o,r1,r2⟩:=a4b V X G hL ps vs.toList zs fs z.cells (by simp[*]) (λn i s j u h1 h2=>H n i s j u h1 (by grind)) (λp hp=>by grind) t hb
    refine⟨.agg o,?_,r2⟩;have aj:=a5t (Γ:=Γ) (w:=w) X.toList (λf hf=>by obtain⟨i,hi⟩:=List.mem_iff_getElem?.1 hf;have:=hL.pos i f (by grind);omega)
    have aa:(X.mapM λf=>(do pure (f.offset,<-sizeOf f.type):Sem (Nat×Nat))).run Γ.P w=.ok (X.map λf=>(f.offset,Γ.P.cellsOf f.type)) w:=by rw[Array.mapM_eq_mapM_toList,Sem.run_map,aj];simp only[Result.andThen_ok];congr 1;grind
    simp only[Instr.build,Sem.run_bind,zeroValue,typeInfo,run_program,Result.andThen_ok,hi,Sem.run_pure,O,run_underlying G,aa,r1]
 ·simp at h
theorem avt(E:TypeId)(n:Nat)(z:PV)(zs:Array Value)(W:zs.size=Γ.P.cellsOf E)(U:0<Γ.P.cellsOf E)(V:Rep Γ.P D w E z zs.toList):a6g Γ.P D w E (List.replicate n z) ((Array.range (n*Γ.P.cellsOf E)).map (zs[·%zs.size]!)).toList:=by
 have m:∀j,j<n*Γ.P.cellsOf E->((Array.range (n*Γ.P.cellsOf E)).map (zs[·%zs.size]!)).toList[j]?=zs.toList[j%Γ.P.cellsOf E]?:=by grind[Nat.mod_lt,Array.toList_map,Array.range]
 refine⟨by simp,λc J=>?_,λi x M=>?_⟩
 ·obtain⟨j,O,rfl⟩:=List.mem_iff_getElem.1 J;have G:j<n*Γ.P.cellsOf E:=by grind
  have:=m j G;rw[Ao O]at this;exact V.oneCell _ (List.mem_iff_getElem?.2 ⟨_,this.symm⟩)
 ·have t:=(A6.1 M);obtain⟨H,I⟩:=t;simp at H;simp at I;subst I;have o:(i+1)*Γ.P.cellsOf E<=n*Γ.P.cellsOf E:=Av _ (by omega);rw[Nat.add_mul]at o;have e:((((Array.range (n*Γ.P.cellsOf E)).map (zs[·%zs.size]!)).toList.drop (i*Γ.P.cellsOf E)).take (Γ.P.cellsOf E))=zs.toList:=by
   apply List.ext_getElem?;grind[List.getElem?_take_of_lt,Nat.mul_comm,Nat.mul_add_mod,Nat.mod_eq_of_lt,List.getElem?_eq_none]
  simp_all
theorem aoy(hw:WRel Γ D ow μ st w)(T:TypeId)(n:Nat)(ps:List (Nat×SV))(G:Array (Nat×Value))(v:SV)(hl:ps.length=G.size)(H:∀(m i:Nat)(s:SV)(j:Nat)(u:Value),ps[m]?=some (i,s)->G[m]?=some (j,u)->i=j/\SRep Γ.P D w ow μ st s u)(h:ak2 Γ.P T n ps=some v):
 ∃u w',(Instr.buildSlice T n G).run Γ.P w=.ok u w'/\OpRes Γ D ow μ st w (.ok (.value u) w') v st:=by
 unfold ak2 at h
 split at h
 ·rename_i E O U hT;cases V:(!(isOf Γ.P E (.agg O U))&&afh Γ.P E (.agg O U)&&aca Γ.P E&&Nat.ble (Γ.P.cellsOf E) 4096)with
  |false=>grind
  |true=>
   rw[V]at h;simp only[Ad,Aj]at h;subst h;simp only[Ai,Bool.not_eq_true']at V;obtain⟨⟨⟨_,c2⟩,c3⟩,c4⟩:=V;have M:=At c4;obtain⟨aj,z,I,Y,X,ai,af,ah,ag⟩:=abo (Γ:=Γ) (D:=D) (ow:=ow) (μ:=μ) (st:=st) (w:=w) c3;obtain⟨v0,Z⟩:∃v0,G[0]?=some v0:=by
    have:0<G.size:=by grind
    simp[*]
   obtain⟨j,u⟩:=v0;obtain⟨W,hs⟩:=H 0 0 _ j u rfl Z;subst W;have aa:G.toList=[(0,u)]:=by
    have h1:G.toList.length=1:=by grind
    obtain⟨a,ha⟩:=List.length_eq_one_iff.1 h1;have h2:G.toList[0]?=some (0,u):=by grind
    grind
   obtain⟨f1,f2,f3⟩:=aew hs c2;have ae:u.cells.size=Γ.P.cellsOf E:=by omega
   have t:∀c:Array Value,c.size=Γ.P.cellsOf E->Instr.fill (λi=>some (i*Γ.P.cellsOf E,Γ.P.cellsOf E)) c [(0,u)]=some u.cells:=by intro c ab;unfold Instr.fill;simp only;rw[if_neg (by grind),aid _ _ _ (by omega)];unfold Instr.fill;congr 1;apply Array.ext';simp only[Nat.zero_mul];unfold abb;simp[*]
   refine⟨.slice (some ⟨w.heap.size,0,none⟩) 1 1,w.alloc (.cells u.cells E),?_,?_⟩
   ·have J:¬(1*Γ.P.cellsOf E>2^24):=by omega
    simp only[Instr.buildSlice,Sem.run_bind,run_underlying hT,Result.andThen_ok,aax I X];rw[if_neg J,aa];by_cases h0:1*Γ.P.cellsOf E=0
    ·rw[if_pos h0];simp only[pure_bind];rw[t _ (by simp)];rfl
    ·rw[if_neg h0];simp only[pure_bind,Sem.run_bind,zeroValue,typeInfo,run_program,Result.andThen_ok,I,Sem.run_pure,Y];rw[t _ (by simp)];rfl
   ·have g:=Grew.alloc w (.cells u.cells E);refine OpRes.grew hw (D':=λb o=>D b o\/(b=w.heap.size/\o<u.cells.toList.length)) rfl g (λb o d=>Or.inl d) (λb o d=>d.imp id (λd=>⟨by omega,by simp[*]⟩)) (λm=>?_);exact SRep.lits (L:=u.cells.toList) (ss:=[.agg O U]) (by simp[*]) f2 (λj x hj=>by
     have ad:=(A6.1 hj).1;refine⟨Or.inr ⟨rfl,by omega⟩,?_⟩;rw[Nat.zero_add,World.cell?_alloc_new];grind) (λi s I=>by
     cases i with
     |succ i=>cases I
     |zero=>cases I;rw[Nat.zero_mul,Ar,<-f1,List.take_length,f3];exact hs.mono m)
 ·cases h
theorem an3(hw:WRel Γ D ow μ st w)(T:TypeId)(n:Nat)(ps:List (Nat×SV))(Y:Array (Nat×Value))(v:SV)(hl:ps.length=Y.size)(M:∀(m i:Nat)(s:SV)(j:Nat)(u:Value),ps[m]?=some (i,s)->Y[m]?=some (j,u)->i=j/\SRep Γ.P D w ow μ st s u)(h:ac1 Γ.P T n ps=.val true v):
 ∃u w',(Instr.buildSlice T n Y).run Γ.P w=.ok u w'/\OpRes Γ D ow μ st w (.ok (.value u) w') v st:=by
 unfold ac1 at h
 cases O:ak2 Γ.P T n ps with
 |some v'=>
  rw[O]at h
  simp only[Ac.val.injEq,true_and]at h;grind[aoy]
 |none=>
 rw[O]at h
 simp only at h
 split at h
 ·rename_i E hT;cases hc:(aca Γ.P E&&isOf Γ.P E (aa7 Γ.P 12 E)&&!(Nat.beq (Γ.P.cellsOf E) 0)&&Nat.ble (n*Γ.P.cellsOf E) 4096&&ps.all (afm Γ.P n E))with
  |false=>grind
  |true=>
   rw[hc]at h;simp only[Ad,Ac.val.injEq,true_and]at h;subst h;simp only[Ai,Bool.not_eq_true']at hc;obtain⟨⟨⟨⟨c1,c2⟩,c3⟩,c4⟩,c5⟩:=hc;have ae:0<Γ.P.cellsOf E:=by rcases Nat.eq_zero_or_pos (Γ.P.cellsOf E)with Z|Z;all_goals simp_all
   have aa:n*Γ.P.cellsOf E<=4096:=At c4;obtain⟨ak,z,hi,ad,ab,X,ai,af,aj⟩:=abo (Γ:=Γ) (D:=D) (ow:=ow) (μ:=μ) (st:=st) (w:=w) c1;have G:=aa6 af E c2;have W:=avt (Γ:=Γ) (D:=D) (w:=w) E n (toPV (aa7 Γ.P 12 E)) z.cells X ae G;have I:aag Γ.P E=true\/Γ.P.cellsOf E=1:=by
    cases J:aag Γ.P E with
    |true=>simp
    |false=>obtain⟨u,hu⟩:=G.single J;right;rw[<-X];have:=congrArg List.length hu;omega
   obtain⟨t,r1,r2,r3⟩:=aic (Γ:=Γ) (D:=D) (w:=w) (ow:=ow) (μ:=μ) (st:=st) E n ps Y.toList _ _ (by simp[*]) (λm i s j u h1 h2=>M m i s j u h1 (by grind)) (λp hp=>Be.1 c5 p hp)
    (λp hp v hv=>by
     have hf:=Be.1 c5 p hp;simp only[afm,Ai]at hf;have hr:=aa6 hv E hf.2;rcases I with J|h1
     ·exact hr.aggLen J
     ·cases J:aag Γ.P E with
      |true=>exact hr.aggLen J
      |false=>obtain⟨u,hu⟩:=hr.single J;simp[*]) (by simp) W
   obtain⟨e1,e2,e3⟩:=r3;refine⟨.slice (some ⟨w.heap.size,0,none⟩) n n,w.alloc (.cells t E),?_,?_⟩
   ·have U:¬(n*Γ.P.cellsOf E>2^24):=by omega
    simp only[Instr.buildSlice,Sem.run_bind,run_underlying hT,Result.andThen_ok,aax hi ab];rw[if_neg U];by_cases Z:n*Γ.P.cellsOf E=0
    ·rw[if_pos Z];have ag:Instr.fill (λi=>some (i*Γ.P.cellsOf E,Γ.P.cellsOf E)) ((Array.range (n*Γ.P.cellsOf E)).map ((#[]:Array Value)[·%(#[]:Array Value).size]!)) Y.toList=some t:=by
      grind
     simp only[pure_bind,ag];rfl
    ·rw[if_neg Z];simp only[pure_bind,Sem.run_bind,zeroValue,typeInfo,run_program,Result.andThen_ok,hi,Sem.run_pure,ad,r1];rfl
   ·have H:(adu (List.replicate n (toPV (aa7 Γ.P 12 E))) ps).length=n:=r2;have g:=Grew.alloc w (.cells t E);refine OpRes.grew hw (D':=λb o=>D b o\/(b=w.heap.size/\o<t.toList.length)) rfl g (λb o d=>Or.inl d) (λb o d=>d.imp id (λd=>⟨by omega,by simp[*]⟩)) (λm=>?_);have V:=SliceRep.mk (P:=Γ.P) (D:=λb o=>D b o\/(b=w.heap.size/\o<t.toList.length)) (w:=w.alloc (.cells t E)) (E:=E) (b:=w.heap.size) (off:=0) (cap:=n) (xs:=adu (List.replicate n (toPV (aa7 Γ.P 12 E))) ps) (L:=t.toList)
     (by omega) e1 (λi x hx=>(e3 i x hx).mono m.dom m.keeps) (λj u hj=>by have ah:=(A6.1 hj).1;refine⟨Or.inr ⟨rfl,by omega⟩,?_⟩;rw[Nat.zero_add,World.cell?_alloc_new];grind)
    rw[H]at V;have hl:=SRep.lit (P:=Γ.P) (w:=w.alloc (.cells t E)) (ow:=ow) (μ:=μ) (st:=st) (by rw[H];exact V);grind
 ·simp at h
theorem auo(hw:WRel Γ D ow μ st w)(T:TypeId)(x y:SV)(xv yv:Value)(v:SV)(st':List BX)(M:SRep Γ.P D w ow μ st x xv)(hy:SRep Γ.P D w ow μ st y yv)(h:afb Γ.P T x y st=.upd true v st'):
 ∃u w',(Instr.makeSlice T xv yv).run Γ.P w=.ok u w'/\OpRes Γ D ow μ st w (.ok (.value u) w') v st':=by
 unfold afb at h
 split at h
 ·rename_i E m c hT;cases U:(aca Γ.P E&&isOf Γ.P E (aa7 Γ.P 12 E)&&!(Nat.beq (Γ.P.cellsOf E) 0)&&Nat.ble (Γ.P.bytesOf E) 512)with
  |false=>grind
  |true=>
   rw[U]at h;simp only[Ad,Ac.upd.injEq,Ax]at h;obtain⟨hb,rfl,rfl⟩:=h;simp only[Ai,Bool.not_eq_true']at U;obtain⟨⟨⟨c1,c0⟩,c2⟩,c3⟩:=U;have Z:0<Γ.P.cellsOf E:=by rcases Nat.eq_zero_or_pos (Γ.P.cellsOf E)with h0|h0;all_goals simp_all
   have ae:Γ.P.bytesOf E<=512:=At c3;obtain⟨t,z,hi,W,I,ab,ag,aa,ah⟩:=abo (Γ:=Γ) (D:=D) (ow:=ow) (μ:=μ) (st:=st) (w:=w) c1;have af:t.bytes=Γ.P.bytesOf E:=by simp[Program.bytesOf,hi]
   cases M;cases hy;obtain⟨m,rfl⟩:∃n:Nat,m=(n:Int):=⟨m.toNat,by omega⟩;obtain⟨n,rfl⟩:∃n:Nat,c=(n:Int):=⟨c.toNat,by omega⟩;have hn:n<=68719476736:=by grind[accMax]
   have O:(t.bytes:Int)*(n:Int)<=281474976710656:=by have h1:t.bytes*n<=512*68719476736:=Nat.mul_le_mul (by grind) hn;grind
   have hr:=run_make (P:=Γ.P) w T E t z hT hi W .i64 .i64 m n (by omega) (by omega) O (by omega);simp only[Ae]at hr;have G:=aa6 (aa) E c0;refine⟨_,_,hr,?_⟩;have J:=avt (Γ:=Γ) (D:=D) (w:=w) E n (toPV (aa7 Γ.P 12 E)) z.cells ab Z G;have Y:m<=n:=by omega
   have H:(madeCells z.cells (n*t.size)).size=n*Γ.P.cellsOf E:=by rw[size_madeCells,I]
   have ad:(w.alloc (.cells (madeCells z.cells (n*t.size)) E)).heap[w.heap.size]?=some (.cells (madeCells z.cells (n*t.size)) E (0,0)):=aav w _;have V:∀(i:Nat)(x:PV),(List.replicate m (toPV (aa7 Γ.P 12 E)))[i]?=some x->Rep Γ.P D w E x (((madeCells z.cells (n*t.size)).toList.drop (i*Γ.P.cellsOf E)).take (Γ.P.cellsOf E)):=by
    intro i x M;have X:i<m:=by grind
    rw[List.getElem?_replicate,if_pos X]at M;have:=J.2.2 i x (by grind);rw[I];exact this
   obtain⟨u1,u2⟩:=hw.newOwn (.cells (madeCells z.cells (n*t.size)) E) (.arr E 0 (List.replicate m (toPV (aa7 Γ.P 12 E)))) (λmv=>by
    refine Or.inr ⟨madeCells z.cells (n*t.size),by grind[aaf],by rw[aaf,aaf],λo d=>?_,?_,λi x M=>(V i x M).mono mv.dom mv.keeps⟩
    ·rw[aaf]at d;have:=hw.dlt _ _ d;omega
    ·rw[H];simpa using Av _ Y)
   refine⟨_,_,_,_,_,Or.inl rfl,u1,u2,?_⟩;have hk:(st++[BX.arr E 0 (List.replicate m (toPV (aa7 Γ.P 12 E)))])[st.length]?=some (.arr E 0 (List.replicate m (toPV (aa7 Γ.P 12 E)))):=by grind
   have:=SRep.arr (P:=Γ.P) (D:=D) (w:=w.alloc (.cells (madeCells z.cells (n*t.size)) E)) (ow:=upd ow w.heap.size (some st.length)) (μ:=upd μ st.length w.heap.size) (cap:=n) hk (by simp[*]) (by unfold maxLen;omega) (by grind[aaf]) (by rw[aaf,aaf]) H.symm;grind[aaf]
 ·cases h
theorem ayx(hw:WRel Γ D ow μ st w)(T ty:TypeId)(x:SV)(xv:Value)(v:SV)(st':List BX)(hx:SRep Γ.P D w ow μ st x xv)(h:ae5 Γ.P st T x=.upd true v st'):
 ∃u w',(Builtin.clear_ #[T] ty #[xv]).run Γ.P w=.ok u w'/\OpRes Γ D ow μ st w (.ok (.value u) w') v st':=by
 unfold ae5 at h
 split at h
 ·rename_i E k g m E' hT;cases U:aem st k g E with
  |none=>grind
  |some xs=>
   rw[U]at h;simp only at h;cases Z:(Nat.beq E E'&&aca Γ.P E&&isOf Γ.P E (aa7 Γ.P 12 E)&&!(Nat.beq (Γ.P.cellsOf E) 0))with
   |false=>grind
   |true=>
    rw[Z]at h;simp only[Ad,Ac.upd.injEq,Ax]at h;obtain⟨ap,rfl,rfl⟩:=h;simp only[Ai,Bool.not_eq_true']at Z;obtain⟨⟨⟨c1,c2⟩,c3⟩,c4⟩:=Z;have:=Ag c1;subst this;have ae:0<Γ.P.cellsOf E:=by rcases Nat.eq_zero_or_pos (Γ.P.cellsOf E)with h0|h0;all_goals simp_all
    have M:=ab2 U;obtain⟨aw,z,hi,ad,ao,aj,au,ai,av⟩:=abo (Γ:=Γ) (D:=D) (ow:=ow) (μ:=μ) (st:=st) (w:=w) c2;have O:=aa6 ai E c3;have H:=avt (Γ:=Γ) (D:=D) (w:=w) E (xs.length-m) (toPV (aa7 Γ.P 12 E)) z.cells aj ae O;cases hx with
    |avwOld hk hg=>grind
    |@avw _ _ _ cap _ _ o hk am hl aq t af ar=>
     rw[M]at hk;cases hk;obtain⟨n,hn⟩:∃n,xs.length-m=n+1:=⟨xs.length-m-1,by omega⟩;rcases hw.obj k _ M with h0|⟨ak,q1,q2,q3,q4,q5⟩
     ·grind
     rw[t]at q1;cases q1;generalize X:(Builtin.zeroCells z.cells (xs.length-m)).toList=G;have Y:((Array.range ((xs.length-m)*Γ.P.cellsOf E)).map (z.cells[·%z.cells.size]!)).toList=G:=by grind[Builtin.zeroCells]
     rw[Y]at H;obtain⟨e1,e2,e3⟩:=H;simp only[List.length_replicate]at e1;have an:m*Γ.P.cellsOf E+(xs.length-m)*Γ.P.cellsOf E=xs.length*Γ.P.cellsOf E:=by rw[<-Nat.add_mul];grind
     have V:m*Γ.P.cellsOf E+G.length<=o.toList.length:=by grind
     have W:=run_storeCells_at Γ.P (μ k) (m*Γ.P.cellsOf E) E G 0 o w t (by omega) e2;simp only[Nat.add_zero]at W;have ag:(abb o.toList (m*Γ.P.cellsOf E) G).toArray.size=o.size:=by grind[abx]
     have I:(w.setRow (μ k) (abb o.toList (m*Γ.P.cellsOf E) G).toArray).heap[μ k]?=some (.cells (abb o.toList (m*Γ.P.cellsOf E) G).toArray E (0,0)):=setRow_heap w (μ k) o _ E _ t;have aa:∀(i:Nat)(x:PV),(xs.take m++List.replicate (xs.length-m) (toPV (aa7 Γ.P 12 E)))[i]?=some x->Rep Γ.P D w E x ((((abb o.toList (m*Γ.P.cellsOf E) G).toArray).toList.drop (i*Γ.P.cellsOf E)).take (Γ.P.cellsOf E)):=by
      intro i x J;simp only;by_cases ab:i<m
      ·rw[Az (by grind),List.getElem?_take_of_lt ab]at J;have:(i+1)*Γ.P.cellsOf E<=m*Γ.P.cellsOf E:=Av _ (by omega);grind[Nat.add_mul,adw]
      ·have ah:(xs.take m).length=m:=by grind
       rw[A3 (by omega),ah]at J;have:=e3 (i-m) x J;have al:i-m<xs.length-m:=by grind
       have h2:(i-m+1)*Γ.P.cellsOf E<=(xs.length-m)*Γ.P.cellsOf E:=Av _ (by omega);rw[Nat.add_mul]at h2;have h3:m*Γ.P.cellsOf E+(i-m)*Γ.P.cellsOf E=i*Γ.P.cellsOf E:=by rw[<-Nat.add_mul];grind
       have h4:(((abb o.toList (m*Γ.P.cellsOf E) G).drop (i*Γ.P.cellsOf E)).take (Γ.P.cellsOf E))=((G.drop ((i-m)*Γ.P.cellsOf E)).take (Γ.P.cellsOf E)):=by
        apply List.ext_getElem?;intro j;by_cases hj:j<Γ.P.cellsOf E
        ·rw[List.getElem?_take_of_lt hj,List.getElem?_take_of_lt hj,List.getElem?_drop,List.getElem?_drop,ajl V,if_pos (by omega)];grind
        grind
       grind
     obtain⟨r1,r2⟩:=hw.setArr (xs':=xs.take m++List.replicate (xs.length-m) (toPV (aa7 Γ.P 12 E))) M t af q3 I ag (by simp;omega) (λb hb=>setRow_other w (μ k) b _ hb) (by simp) rfl rfl rfl
      ⟨by grind,aa⟩
     refine⟨.tuple #[],_,?_,_,_,_,_,_,Or.inl rfl,r1,r2,.tup (by simp) (λi s v hs=>by simp at hs)⟩;rw[hn]at X ⊢;simp only[Builtin.clear_,List.getElem?_toArray,List.getElem?_cons_zero,Sem.run_bind,run_underlying hT,Result.andThen_ok,zeroValue,typeInfo,run_program,hi,Sem.run_pure,ad,X,W];rfl
 ·cases h
theorem arm(J:WRel Γ D ow μ st w)(T V:TypeId)(x y:SV)(xv yv:Value)(v:SV)(st':List BX)(X:SRep Γ.P D w ow μ st x xv)(Y:SRep Γ.P D w ow μ st y yv)(h:aco Γ.P st T x y=.upd true v st'):
 ∃u w',(Builtin.append_ #[T,T] V #[xv,yv]).run Γ.P w=.ok u w'/\OpRes Γ D ow μ st w (.ok (.value u) w') v st':=by
 unfold aco at h
 split at h
 ·rename_i E s;split at h
  ·rename_i j hj;split at h
   ·rename_i F g xs hk;cases G:(aag Γ.P E&&isOf Γ.P E (frzS st s)&&!(bj4 x j))with
    |false=>grind
    |true=>
     rw[G]at h;simp only[Ad]at h;simp only[Ai]at G;obtain⟨⟨b1,b2⟩,_⟩:=G;obtain⟨h1,m⟩:=J.freezeRow hk;cases Y with
     |@lits _ _ b off L l1 l2 l3 l4=>
      have z:=l4 0 s rfl;rw[Nat.zero_mul,Ar]at z;simp only[Al,Am,Nat.zero_add,Nat.one_mul]at l1;rw[<-l1,List.take_length]at z;have O:=ai7 (fz:=[j]) J z (λZ aa=>by grind);have m2:Moves (adx D ow μ st [j]) w ow μ st (adx D ow μ st [j]) w (aqd ow j) μ (st.set j (.arr F (g+1) [])):=⟨λ_ _ d=>d,Keeps.refl _ _,m.box,m.map,m.obj,m.arr,λZ g' e=>by obtain⟨g2,e2,ab,z⟩:=m.acc Z g' e;grind⟩
      have o:=aa6 (O.mono m2) E b2;rw[amy (Or.inl b1) l2]at o;have hl:SRep Γ.P (adx D ow μ st [j]) w (aqd ow j) μ (st.set j (.arr F (g+1) [])) (.lit E [toPV (frzS st s)]) (.slice (some ⟨b,off,none⟩) 1 1):=by
       refine SRep.lit (xs:=[toPV (frzS st s)]) (.mk (L:=L) (by simp) (by simp[*]) (λi x hi=>?_) (l3.mono m.dom m.keeps));cases i with
       |zero=>grind
       |succ i=>simp at hi
      obtain⟨u,w',t,u2,w2,D2,U,W,hr,M,H,I⟩:=anh h1 T V x _ xv _ v st' (X.mono m) hl h;exact⟨u,w',t,u2,w2,D2,U,W,hr,M,m.trans H,I⟩
   ·cases h
  ·cases h
 ·exact anh J T V x _ xv yv v st' X Y h
end
end Go.Ab
