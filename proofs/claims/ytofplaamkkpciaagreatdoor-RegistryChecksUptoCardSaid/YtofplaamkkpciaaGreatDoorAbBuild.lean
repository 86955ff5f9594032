/- Composite literals. -/
import Derived.Test.YtofplaamkkpciaaGreatDoorAbAppend
set_option linter.unusedVariables false
set_option linter.unusedSimpArgs false
set_option linter.unnecessarySimpa false
namespace Go.Ab
open Go
theorem az7(off:Nat):∀(xs:List Value)(s:Nat)(m:Array Value),off+s+xs.length<=m.size->
 ((xs.zipIdx s).foldl (λcs(p:Value×Nat)=>cs.setIfInBounds (off+p.2) p.1) m).toList=abe m.toList (off+s) xs:=by
 intro xs
 induction xs with
 |nil=>simp_all[abe]
 |cons x r o=>
  intro s m h
  simp only[Al]at h
  simp only[List.zipIdx_cons,List.foldl_cons]
  rw[o (s+1) _ (by simp;omega),Array.toList_setIfInBounds]
  apply List.ext_getElem?
  grind[ajv]
theorem aik(off:Nat)(v m:Array Value)(h:off+v.size<=m.size):
 v.zipIdx.foldl (λcs(p:Value×Nat)=>cs.setIfInBounds (off+p.2) p.1) m=(abe m.toList off v.toList).toArray:=by
 rw[<-Array.foldl_toList]
 have:=az7 off v.toList 0 m (by simp[*])
 grind
section
variable{Γ:Ctx}{D:Dom}{ow:Own}{μ:Nat->Nat}{st:List BX}{w:World}
theorem a6y(m:List Field)(h:∀f,f∈m->Γ.P.cellsOf f.type≠0):(m.mapM λf=>(do pure (f.offset,<-sizeOf f.type):Sem (Nat×Nat))).run Γ.P w=.ok (m.map λf=>(f.offset,Γ.P.cellsOf f.type)) w:=by
 induction m with
 |nil=>simp
 |cons f r z=>obtain⟨i,o,t⟩:=aay (h f (by simp));simp_all[List.mapM_cons,Sem.run_bind,aax,Result.andThen_ok,Sem.run_pure,Bl]
theorem a5k(T:TypeId)(O:Array Field)(hT:Γ.P.underlying T=some (.struct O))(Z:Laid Γ.P T O):∀(ps:List (Nat×SV))(vs:List (Nat×Value))(I t:List SV)(m:Array Value),
 ps.length=vs.length->(∀(n i:Nat)(s:SV)(j:Nat)(v:Value),ps[n]?=some (i,s)->vs[n]?=some (j,v)->i=j/\SRep Γ.P D w ow μ st s v)->
 (∀p,p∈ps->ao1 Γ.P O p=true)->SRep Γ.P D w ow μ st (.agg T I) (.agg m)->aey I ps=some t->
 ∃o,Instr.fill (λi=>(O.map λf=>(f.offset,Γ.P.cellsOf f.type))[i]?) m vs=some o/\SRep Γ.P D w ow μ st (.agg T t) (.agg o):=by
 intro ps
 induction ps with
 |nil=>
  intro vs I t m hl _ _ X J
  have:vs=[]:=A5 (by grind)
  subst this
  simp[aey]at J;subst J
  exact⟨m,rfl,X⟩
 |cons p r ih=>
  intro vs I t m hl G H X J
  cases vs with
  |nil=>simp at hl
  |cons q vr=>
   obtain⟨i,s⟩:=p
   obtain⟨j,v⟩:=q
   obtain⟨ad,ag⟩:=G 0 i s j v rfl rfl
   subst ad
   have z:=H (i,s) (by simp)
   simp only[ao1]at z
   cases W:O[i]? with
   |none=>grind
   |some f=>
    rw[W]at z
    simp only at z
    obtain⟨f1,f2,f3⟩:=ae1 ag z
    unfold aey at J
    cases ae:Nat.blt i I.length with
    |false=>grind
    |true=>
     rw[ae]at J
     simp only[Ad]at J
     generalize aj:Value.agg m=cv at X
     cases X with
     |@agg _ ai _ cs U al am ao an=>
      rw[abj hT]at U;cases U
      have aa:m=cs.toArray:=by grind
      subst aa
      have ak:=Z.inside i f W
      have ap:v.cells.toList.length=Γ.P.cellsOf f.type:=f1
      have M:f.offset+v.cells.toList.length<=cs.length:=by omega
      have ah:v.cells.size=Γ.P.cellsOf f.type:=by omega
      have ab:=aik f.offset v.cells cs.toArray (by simp;omega)
      have V:SRep Γ.P D w ow μ st (.agg T (I.set i s)) (.agg (abe cs f.offset v.cells.toList).toArray):=by
       refine .agg (abj hT) (by grind[abz]) ?_ (by simp[*]) (λn x g hn hg=>?_)
       ·grind[abe,List.mem_of_mem_take,List.mem_of_mem_drop]
       ·by_cases af:n=i
        ·grind[List.getElem?_set_self,Nat.le_of_ble_eq_true,art]
        ·rw[Ay (by omega)]at hn;rw[adz M]
         ·grind
         ·rcases Nat.lt_or_gt_of_ne af with Y|Y
          ·have:=Z.apart n i g f hg W Y;omega
          ·have:=Z.apart i n f g W hg Y;omega
      obtain⟨o,r1,r2⟩:=ih vr (I.set i s) t _ (by grind) (λn a b c d h1 h2=>G (n+1) a b c d (by simp[*]) (by simp[*])) (λp hp=>H p (by simp[hp])) V J
      grind[Instr.fill]
def a7m(P:Program)(D:Dom)(w:World)(E:TypeId)(xs:List PV)(L:List Value):Prop:=
 L.length=xs.length*P.cellsOf E/\(∀c,c∈L->c.oneCell'=true)/\∀(i:Nat)(x:PV),xs[i]?=some x->Rep P D w E x ((L.drop (i*P.cellsOf E)).take (P.cellsOf E))
theorem aij(E:TypeId)(n:Nat):∀(ps:List (Nat×SV))(vs:List (Nat×Value))(xs:List PV)(o:Array Value),
 ps.length=vs.length->(∀(m i:Nat)(s:SV)(j:Nat)(v:Value),ps[m]?=some (i,s)->vs[m]?=some (j,v)->i=j/\SRep Γ.P D w ow μ st s v)->
 (∀p,p∈ps->afr Γ.P n E p=true)->(∀p,p∈ps->∀v,SRep Γ.P D w ow μ st p.2 v->v.cells.toList.length=Γ.P.cellsOf E)->xs.length=n->a7m Γ.P D w E xs o.toList->
 ∃t,Instr.fill (λi=>some (i*Γ.P.cellsOf E,Γ.P.cellsOf E)) o vs=some t/\(ady xs ps).length=n/\a7m Γ.P D w E (ady xs ps) t.toList:=by
 intro ps
 induction ps with
 |nil=>
  intro vs xs o hl _ _ _ hn hs
  have:vs=[]:=A5 (by grind)
  subst this
  exact⟨o,rfl,hn,hs⟩
 |cons p r ih=>
  intro vs xs o hl z G H hn hs
  cases vs with
  |nil=>simp at hl
  |cons q vr=>
   obtain⟨i,s⟩:=p
   obtain⟨j,v⟩:=q
   obtain⟨X,V⟩:=z 0 i s j v rfl rfl
   subst X
   have J:=G (i,s) (by simp)
   simp only[afr,Ai]at J
   have ae:i<n:=At J.1
   have U:=aa9 V E J.2
   have aa:v.cells.toList.length=Γ.P.cellsOf E:=H (i,s) (by simp) v V
   have ad:v.cells.size=Γ.P.cellsOf E:=by omega
   obtain⟨e1,e2,e3⟩:=hs
   have O:(i+1)*Γ.P.cellsOf E<=n*Γ.P.cellsOf E:=Au _ (by omega)
   rw[Nat.add_mul]at O
   have M:i*Γ.P.cellsOf E+v.cells.toList.length<=o.toList.length:=by grind
   have W:=aik (i*Γ.P.cellsOf E) v.cells o (by grind)
   have ab:a7m Γ.P D w E (xs.set i (toPV s)) (abe o.toList (i*Γ.P.cellsOf E) v.cells.toList):=by
    refine⟨by grind[abz],?_,λm x hm=>?_⟩
    ·intro c I;unfold abe at I;simp only[Bm]at I;rcases I with(I|I)|I
     ·grind
     ·exact U.oneCell c I
     grind
    ·by_cases Y:m=i
     ·grind[List.getElem?_set_self,art]
     ·rw[Ay (by omega)]at hm;rw[adz M]
      ·simp[*]
      ·rw[aa];rcases Nat.lt_or_gt_of_ne Y with h'|h'
       ·have:(m+1)*Γ.P.cellsOf E<=i*Γ.P.cellsOf E:=Au _ (by omega);grind
       ·have:(i+1)*Γ.P.cellsOf E<=m*Γ.P.cellsOf E:=Au _ (by omega);grind
   obtain⟨t,r1,r2,r3⟩:=ih vr (xs.set i (toPV s)) (abe o.toList (i*Γ.P.cellsOf E) v.cells.toList).toArray (by grind) (λm a b c d h1 h2=>z (m+1) a b c d (by simp[*]) (by simp[*])) (λp Z=>G p (by simp[Z])) (λp Z=>H p (by simp[Z])) (by simp[*]) (by simp[*])
   refine⟨t,?_,r2,r3⟩
   grind[Instr.fill]
theorem awk{P:Program}{n:Nat}{T m:TypeId}{o:Array Field}{zs:List SV}(t:P.underlying T=some (.struct o))(h:aa8 P (n+1) T=.agg m zs):m=T:=by grind[aa8]
theorem a7i{P:Program}{n k:Nat}{T m E:TypeId}{z:PV}(o:P.underlying T=some (.array k E))(h:aa8 P (n+1) T=.data m z):m=T:=by grind[aa8,arrF]
theorem azm(T:TypeId)(ps:List (Nat×SV))(vs:Array (Nat×Value))(v:SV)(hl:ps.length=vs.size)(H:∀(n i:Nat)(s:SV)(j:Nat)(u:Value),ps[n]?=some (i,s)->vs[n]?=some (j,u)->i=j/\SRep Γ.P D w ow μ st s u)(h:aki Γ.P T ps=.val true v):
 ∃u,(Instr.build T vs).run Γ.P w=.ok u w/\SRep Γ.P D w ow μ st v u:=by
 unfold aki at h
 split at h
 ·rename_i n E V zs G hz;cases M:(acg Γ.P T&&aa7 Γ.P E&&Nat.beq (Γ.P.cellsOf T) (n*Γ.P.cellsOf E)&&ps.all (afr Γ.P n E))with
  |false=>grind
  |true=>
   rw[M]at h;simp only[Ad,Ac.val.injEq,true_and]at h;subst h;simp only[Ai,aa7,Bool.not_eq_true',A7]at M;obtain⟨⟨⟨c1,⟨c2,ar⟩,ad⟩,W⟩,c4⟩:=M;have W:=Ag W;have ah:Γ.P.cellsOf E≠0:=λh0=>by grind
   obtain⟨ie,ae,al⟩:=aay ah;obtain⟨aq,z,hi,O,af,ao,am,t,an⟩:=abo (Γ:=Γ) (D:=D) (ow:=ow) (μ:=μ) (st:=st) (w:=w) c1;have J:V=T:=a7i G hz;subst J;rw[hz]at t;have ha:aah Γ.P V=true:=by simp[aah,G]
   have Z:a7m Γ.P D w E zs z.cells.toList/\zs.length=n:=by
    generalize ap:z=zz at t;cases t with
    |data _ hr=>
     cases hr with
     |agg I=>grind
     |arr I ag ai ab ak=>rw[G]at I;cases I;simp only[ap,Value.cells];exact⟨⟨by rw[ag,W,ab],ai,ak⟩,ab⟩
   obtain⟨o,r1,r2,r3⟩:=aij (Γ:=Γ) (D:=D) (w:=w) (ow:=ow) (μ:=μ) (st:=st) E n ps vs.toList zs z.cells (by simp[*]) (λm i s j u h1 h2=>H m i s j u h1 (by grind)) (λp hp=>Bd.1 c4 p hp)
    (λp hp v hv=>by
     have hf:=Bd.1 c4 p hp;simp only[afr,Ai]at hf;have hr:=aa9 hv E hf.2;cases Y:aah Γ.P E with
     |true=>exact hr.aggLen Y
     |false=>
      rcases ad with h'|h'
      ·grind
      ·obtain⟨u,hu⟩:=hr.single Y;grind[Nat.eq_of_beq_eq_true]) Z.2 Z.1
   obtain⟨e1,e2,e3⟩:=r3;refine⟨.agg o,by simp only[Instr.build,Sem.run_bind,zeroValue,typeInfo,run_program,Result.andThen_ok,hi,Sem.run_pure,O,run_underlying G,aax ae al,r1],?_⟩;have:=SRep.data (P:=Γ.P) (D:=D) (w:=w) (ow:=ow) (μ:=μ) (st:=st) (T:=V) (v:=.agg (ady zs ps)) (cs:=o.toList) ha (.arr G (by rw[e1,r2,W]) e2 r2 e3);simp[*]
 ·rename_i X V zs G hz;cases M:(acg Γ.P T&&acs Γ.P T&&ps.all (ao1 Γ.P X))with
  |false=>grind
  |true=>
   rw[M]at h;simp only[Ad]at h;simp only[Ai]at M;obtain⟨⟨c1,c2⟩,W⟩:=M;have hL:=act c2 (abj G);cases hb:aey zs ps with
   |none=>grind
   |some fs=>
    rw[hb]at h;simp only[Ac.val.injEq,true_and]at h;subst h;obtain⟨aq,z,hi,O,af,ao,am,t,an⟩:=abo (Γ:=Γ) (D:=D) (ow:=ow) (μ:=μ) (st:=st) (w:=w) c1;have J:V=T:=awk G hz;subst J;rw[hz]at t;have U:z=.agg z.cells:=by grind[aah,pack,Value.cells]
    rw[U]at t;obtain⟨o,r1,r2⟩:=a5k V X G hL ps vs.toList zs fs z.cells (by simp[*]) (λn i s j u h1 h2=>H n i s j u h1 (by grind)) (λp hp=>by grind) t hb
    refine⟨.agg o,?_,r2⟩;have aj:=a6y (Γ:=Γ) (w:=w) X.toList (λf hf=>by obtain⟨i,hi⟩:=List.mem_iff_getElem?.1 hf;have:=hL.pos i f (by grind);omega)
    have aa:(X.mapM λf=>(do pure (f.offset,<-sizeOf f.type):Sem (Nat×Nat))).run Γ.P w=.ok (X.map λf=>(f.offset,Γ.P.cellsOf f.type)) w:=by rw[Array.mapM_eq_mapM_toList,Sem.run_map,aj];simp only[Result.andThen_ok];congr 1;grind
    simp only[Instr.build,Sem.run_bind,zeroValue,typeInfo,run_program,Result.andThen_ok,hi,Sem.run_pure,O,run_underlying G,aa,r1]
 ·simp at h
theorem awl(E:TypeId)(n:Nat)(z:PV)(zs:Array Value)(W:zs.size=Γ.P.cellsOf E)(U:0<Γ.P.cellsOf E)(V:Rep Γ.P D w E z zs.toList):a7m Γ.P D w E (List.replicate n z) ((Array.range (n*Γ.P.cellsOf E)).map (zs[·%zs.size]!)).toList:=by
 have m:∀j,j<n*Γ.P.cellsOf E->((Array.range (n*Γ.P.cellsOf E)).map (zs[·%zs.size]!)).toList[j]?=zs.toList[j%Γ.P.cellsOf E]?:=by grind[Nat.mod_lt,Array.toList_map,Array.range]
 refine⟨by simp,λc J=>?_,λi x M=>?_⟩
 ·obtain⟨j,O,rfl⟩:=List.mem_iff_getElem.1 J;have G:j<n*Γ.P.cellsOf E:=by grind
  have:=m j G;rw[Ap O]at this;exact V.oneCell _ (List.mem_iff_getElem?.2 ⟨_,this.symm⟩)
 ·have t:=(A6.1 M);obtain⟨H,I⟩:=t;simp at H;simp at I;subst I;have o:(i+1)*Γ.P.cellsOf E<=n*Γ.P.cellsOf E:=Au _ (by omega);rw[Nat.add_mul]at o;have e:((((Array.range (n*Γ.P.cellsOf E)).map (zs[·%zs.size]!)).toList.drop (i*Γ.P.cellsOf E)).take (Γ.P.cellsOf E))=zs.toList:=by
   apply List.ext_getElem?;grind[List.getElem?_take_of_lt,Nat.mul_comm,Nat.mul_add_mod,Nat.mod_eq_of_lt,List.getElem?_eq_none]
  simp_all
theorem apk(hw:WRel Γ D ow μ st w)(T:TypeId)(n:Nat)(ps:List (Nat×SV))(vs:Array (Nat×Value))(v:SV)(hl:ps.length=vs.size)(G:∀(m i:Nat)(s:SV)(j:Nat)(u:Value),ps[m]?=some (i,s)->vs[m]?=some (j,u)->i=j/\SRep Γ.P D w ow μ st s u)(h:alb Γ.P T n ps=some v):
 ∃u w',(Instr.buildSlice T n vs).run Γ.P w=.ok u w'/\OpRes Γ D ow μ st w (.ok (.value u) w') v st:=by
 unfold alb at h
 split at h
 ·rename_i E M O hT;cases U:(!(isOf Γ.P E (.agg M O))&&afl Γ.P E (.agg M O)&&acg Γ.P E&&Nat.ble (Γ.P.cellsOf E) 4096)with
  |false=>grind
  |true=>
   rw[U]at h;simp only[Ad,Aj]at h;subst h;simp only[Ai,Bool.not_eq_true']at U;obtain⟨⟨⟨_,c2⟩,c3⟩,c4⟩:=U;have J:=At c4;obtain⟨ai,z,H,X,W,ah,ae,ag,af⟩:=abo (Γ:=Γ) (D:=D) (ow:=ow) (μ:=μ) (st:=st) (w:=w) c3;obtain⟨v0,Y⟩:∃v0,vs[0]?=some v0:=by
    have:0<vs.size:=by grind
    simp[*]
   obtain⟨j,u⟩:=v0;obtain⟨V,hs⟩:=G 0 0 _ j u rfl Y;subst V;have Z:vs.toList=[(0,u)]:=by
    have h1:vs.toList.length=1:=by grind
    obtain⟨a,ha⟩:=List.length_eq_one_iff.1 h1;have h2:vs.toList[0]?=some (0,u):=by grind
    grind
   obtain⟨f1,f2,f3⟩:=ae1 hs c2;have ad:u.cells.size=Γ.P.cellsOf E:=by omega
   have t:∀c:Array Value,c.size=Γ.P.cellsOf E->Instr.fill (λi=>some (i*Γ.P.cellsOf E,Γ.P.cellsOf E)) c [(0,u)]=some u.cells:=by intro c aa;unfold Instr.fill;simp only;rw[if_neg (by grind),aik _ _ _ (by omega)];unfold Instr.fill;congr 1;apply Array.ext';simp only[Nat.zero_mul];unfold abe;simp[*]
   refine⟨.slice (some ⟨w.heap.size,0,none⟩) 1 1,w.alloc (.cells u.cells E),?_,?_⟩
   ·have I:¬(1*Γ.P.cellsOf E>2^24):=by omega
    simp only[Instr.buildSlice,Sem.run_bind,run_underlying hT,Result.andThen_ok,aax H W];rw[if_neg I,Z];by_cases h0:1*Γ.P.cellsOf E=0
    ·rw[if_pos h0];simp only[pure_bind];rw[t _ (by simp)];rfl
    ·rw[if_neg h0];simp only[pure_bind,Sem.run_bind,zeroValue,typeInfo,run_program,Result.andThen_ok,H,Sem.run_pure,X];rw[t _ (by simp)];rfl
   ·have g:=Grew.alloc w (.cells u.cells E);refine OpRes.grew hw (D':=λb o=>D b o\/(b=w.heap.size/\o<u.cells.toList.length)) rfl g (λb o d=>Or.inl d) (λb o d=>d.imp id (λd=>⟨by omega,by simp[*]⟩)) (λm=>?_);exact SRep.lits (L:=u.cells.toList) (ss:=[.agg M O]) (by simp[*]) f2 (λj x hj=>by
     have ab:=(A6.1 hj).1;refine⟨Or.inr ⟨rfl,by omega⟩,?_⟩;rw[Nat.zero_add,World.cell?_alloc_new];grind) (λi s H=>by
     cases i with
     |succ i=>cases H
     |zero=>cases H;rw[Nat.zero_mul,Ar,<-f1,List.take_length,f3];exact hs.mono m)
 ·cases h
theorem aoi(hw:WRel Γ D ow μ st w)(T:TypeId)(n:Nat)(ps:List (Nat×SV))(vs:Array (Nat×Value))(v:SV)(hl:ps.length=vs.size)(M:∀(m i:Nat)(s:SV)(j:Nat)(u:Value),ps[m]?=some (i,s)->vs[m]?=some (j,u)->i=j/\SRep Γ.P D w ow μ st s u)(h:ac2 Γ.P T n ps=.val true v):
 ∃u w',(Instr.buildSlice T n vs).run Γ.P w=.ok u w'/\OpRes Γ D ow μ st w (.ok (.value u) w') v st:=by
 unfold ac2 at h
 cases O:alb Γ.P T n ps with
 |some v'=>
  rw[O]at h
  simp only[Ac.val.injEq,true_and]at h;grind[apk]
 |none=>
 rw[O]at h
 simp only at h
 split at h
 ·rename_i E hT;cases hc:(acg Γ.P E&&isOf Γ.P E (aa8 Γ.P 12 E)&&!(Nat.beq (Γ.P.cellsOf E) 0)&&Nat.ble (n*Γ.P.cellsOf E) 4096&&ps.all (afr Γ.P n E))with
  |false=>grind
  |true=>
   rw[hc]at h;simp only[Ad,Ac.val.injEq,true_and]at h;subst h;simp only[Ai,Bool.not_eq_true']at hc;obtain⟨⟨⟨⟨c1,c2⟩,c3⟩,c4⟩,c5⟩:=hc;have ad:0<Γ.P.cellsOf E:=by rcases Nat.eq_zero_or_pos (Γ.P.cellsOf E)with Y|Y;all_goals simp_all
   have Z:n*Γ.P.cellsOf E<=4096:=At c4;obtain⟨aj,z,hi,ab,aa,X,ah,ae,ai⟩:=abo (Γ:=Γ) (D:=D) (ow:=ow) (μ:=μ) (st:=st) (w:=w) c1;have G:=aa9 ae E c2;have W:=awl (Γ:=Γ) (D:=D) (w:=w) E n (toPV (aa8 Γ.P 12 E)) z.cells X ad G;have I:aah Γ.P E=true\/Γ.P.cellsOf E=1:=by
    cases J:aah Γ.P E with
    |true=>simp
    |false=>obtain⟨u,hu⟩:=G.single J;right;rw[<-X];have:=congrArg List.length hu;omega
   obtain⟨t,r1,r2,r3⟩:=aij (Γ:=Γ) (D:=D) (w:=w) (ow:=ow) (μ:=μ) (st:=st) E n ps vs.toList _ _ (by simp[*]) (λm i s j u h1 h2=>M m i s j u h1 (by grind)) (λp hp=>Bd.1 c5 p hp)
    (λp hp v hv=>by
     have hf:=Bd.1 c5 p hp;simp only[afr,Ai]at hf;have hr:=aa9 hv E hf.2;rcases I with J|h1
     ·exact hr.aggLen J
     ·cases J:aah Γ.P E with
      |true=>exact hr.aggLen J
      |false=>obtain⟨u,hu⟩:=hr.single J;simp[*]) (by simp) W
   obtain⟨e1,e2,e3⟩:=r3;refine⟨.slice (some ⟨w.heap.size,0,none⟩) n n,w.alloc (.cells t E),?_,?_⟩
   ·have U:¬(n*Γ.P.cellsOf E>2^24):=by omega
    simp only[Instr.buildSlice,Sem.run_bind,run_underlying hT,Result.andThen_ok,aax hi aa];rw[if_neg U];by_cases Y:n*Γ.P.cellsOf E=0
    ·rw[if_pos Y];have af:Instr.fill (λi=>some (i*Γ.P.cellsOf E,Γ.P.cellsOf E)) ((Array.range (n*Γ.P.cellsOf E)).map ((#[]:Array Value)[·%(#[]:Array Value).size]!)) vs.toList=some t:=by
      grind
     simp only[pure_bind,af];rfl
    ·rw[if_neg Y];simp only[pure_bind,Sem.run_bind,zeroValue,typeInfo,run_program,Result.andThen_ok,hi,Sem.run_pure,ab,r1];rfl
   ·have H:(ady (List.replicate n (toPV (aa8 Γ.P 12 E))) ps).length=n:=r2;have g:=Grew.alloc w (.cells t E);refine OpRes.grew hw (D':=λb o=>D b o\/(b=w.heap.size/\o<t.toList.length)) rfl g (λb o d=>Or.inl d) (λb o d=>d.imp id (λd=>⟨by omega,by simp[*]⟩)) (λm=>?_);have V:=SliceRep.mk (P:=Γ.P) (D:=λb o=>D b o\/(b=w.heap.size/\o<t.toList.length)) (w:=w.alloc (.cells t E)) (E:=E) (b:=w.heap.size) (off:=0) (cap:=n) (xs:=ady (List.replicate n (toPV (aa8 Γ.P 12 E))) ps) (L:=t.toList)
     (by omega) e1 (λi x hx=>(e3 i x hx).mono m.dom m.keeps) (λj u hj=>by have ag:=(A6.1 hj).1;refine⟨Or.inr ⟨rfl,by omega⟩,?_⟩;rw[Nat.zero_add,World.cell?_alloc_new];grind)
    rw[H]at V;have hl:=SRep.lit (P:=Γ.P) (w:=w.alloc (.cells t E)) (ow:=ow) (μ:=μ) (st:=st) (by rw[H];exact V);grind
 ·simp at h
theorem avd(hw:WRel Γ D ow μ st w)(T:TypeId)(x y:SV)(xv yv:Value)(v:SV)(st':List BX)(M:SRep Γ.P D w ow μ st x xv)(hy:SRep Γ.P D w ow μ st y yv)(h:afg Γ.P T x y st=.upd true v st'):
 ∃u w',(Instr.makeSlice T xv yv).run Γ.P w=.ok u w'/\OpRes Γ D ow μ st w (.ok (.value u) w') v st':=by
 unfold afg at h
 split at h
 ·rename_i E m c hT;cases U:(acg Γ.P E&&isOf Γ.P E (aa8 Γ.P 12 E)&&!(Nat.beq (Γ.P.cellsOf E) 0)&&Nat.ble (Γ.P.bytesOf E) 512)with
  |false=>grind
  |true=>
   rw[U]at h;simp only[Ad,Ac.upd.injEq,Ax]at h;obtain⟨hb,rfl,rfl⟩:=h;simp only[Ai,Bool.not_eq_true']at U;obtain⟨⟨⟨c1,c0⟩,c2⟩,c3⟩:=U;have Z:0<Γ.P.cellsOf E:=by rcases Nat.eq_zero_or_pos (Γ.P.cellsOf E)with h0|h0;all_goals simp_all
   have ae:Γ.P.bytesOf E<=512:=At c3;obtain⟨t,z,hi,W,I,ab,ag,aa,ah⟩:=abo (Γ:=Γ) (D:=D) (ow:=ow) (μ:=μ) (st:=st) (w:=w) c1;have af:t.bytes=Γ.P.bytesOf E:=by simp[Program.bytesOf,hi]
   cases M;cases hy;obtain⟨m,rfl⟩:∃n:Nat,m=(n:Int):=⟨m.toNat,by omega⟩;obtain⟨n,rfl⟩:∃n:Nat,c=(n:Int):=⟨c.toNat,by omega⟩;have hn:n<=68719476736:=by grind[accMax]
   have O:(t.bytes:Int)*(n:Int)<=281474976710656:=by have h1:t.bytes*n<=512*68719476736:=Nat.mul_le_mul (by grind) hn;grind
   have hr:=run_make (P:=Γ.P) w T E t z hT hi W .i64 .i64 m n (by omega) (by omega) O (by omega);simp only[Ae]at hr;have G:=aa9 (aa) E c0;refine⟨_,_,hr,?_⟩;have J:=awl (Γ:=Γ) (D:=D) (w:=w) E n (toPV (aa8 Γ.P 12 E)) z.cells ab Z G;have Y:m<=n:=by omega
   have H:(madeCells z.cells (n*t.size)).size=n*Γ.P.cellsOf E:=by rw[size_madeCells,I]
   have ad:(w.alloc (.cells (madeCells z.cells (n*t.size)) E)).heap[w.heap.size]?=some (.cells (madeCells z.cells (n*t.size)) E (0,0)):=aaw w _;have V:∀(i:Nat)(x:PV),(List.replicate m (toPV (aa8 Γ.P 12 E)))[i]?=some x->Rep Γ.P D w E x (((madeCells z.cells (n*t.size)).toList.drop (i*Γ.P.cellsOf E)).take (Γ.P.cellsOf E)):=by
    intro i x M;have X:i<m:=by grind
    rw[List.getElem?_replicate,if_pos X]at M;have:=J.2.2 i x (by grind);rw[I];exact this
   obtain⟨u1,u2⟩:=hw.newOwn (.cells (madeCells z.cells (n*t.size)) E) (.arr E 0 (List.replicate m (toPV (aa8 Γ.P 12 E)))) (λmv=>by
    refine Or.inr ⟨madeCells z.cells (n*t.size),by grind[aaf],by rw[aaf,aaf],λo d=>?_,?_,λi x M=>(V i x M).mono mv.dom mv.keeps⟩
    ·rw[aaf]at d;have:=hw.dlt _ _ d;omega
    ·rw[H];simpa using Au _ Y)
   refine⟨_,_,_,_,_,Or.inl rfl,u1,u2,?_⟩;have hk:(st++[BX.arr E 0 (List.replicate m (toPV (aa8 Γ.P 12 E)))])[st.length]?=some (.arr E 0 (List.replicate m (toPV (aa8 Γ.P 12 E)))):=by grind
   have:=SRep.arr (P:=Γ.P) (D:=D) (w:=w.alloc (.cells (madeCells z.cells (n*t.size)) E)) (ow:=upd ow w.heap.size (some st.length)) (μ:=upd μ st.length w.heap.size) (cap:=n) hk (by simp[*]) (by unfold maxLen;omega) (by grind[aaf]) (by rw[aaf,aaf]) H.symm;grind[aaf]
 ·cases h
theorem azq(hw:WRel Γ D ow μ st w)(T ty:TypeId)(x:SV)(xv:Value)(v:SV)(st':List BX)(hx:SRep Γ.P D w ow μ st x xv)(h:afc Γ.P st T x=.upd true v st'):
 ∃u w',(Builtin.clear_ #[T] ty #[xv]).run Γ.P w=.ok u w'/\OpRes Γ D ow μ st w (.ok (.value u) w') v st':=by
 unfold afc at h
 split at h
 ·rename_i E k g m E' hT;cases U:ad1 st k g E with
  |none=>grind
  |some xs=>
   rw[U]at h;simp only at h;cases Z:(Nat.beq E E'&&acg Γ.P E&&isOf Γ.P E (aa8 Γ.P 12 E)&&!(Nat.beq (Γ.P.cellsOf E) 0))with
   |false=>grind
   |true=>
    rw[Z]at h;simp only[Ad,Ac.upd.injEq,Ax]at h;obtain⟨ap,rfl,rfl⟩:=h;simp only[Ai,Bool.not_eq_true']at Z;obtain⟨⟨⟨c1,c2⟩,c3⟩,c4⟩:=Z;have:=Ag c1;subst this;have ae:0<Γ.P.cellsOf E:=by rcases Nat.eq_zero_or_pos (Γ.P.cellsOf E)with h0|h0;all_goals simp_all
    have M:=ab1 U;obtain⟨aw,z,hi,ad,ao,aj,au,ai,av⟩:=abo (Γ:=Γ) (D:=D) (ow:=ow) (μ:=μ) (st:=st) (w:=w) c2;have O:=aa9 ai E c3;have H:=awl (Γ:=Γ) (D:=D) (w:=w) E (xs.length-m) (toPV (aa8 Γ.P 12 E)) z.cells aj ae O;cases hx with
    |avwOld hk hg=>grind
    |@avw _ _ _ cap _ _ o hk am hl aq t af ar=>
     rw[M]at hk;cases hk;obtain⟨n,hn⟩:∃n,xs.length-m=n+1:=⟨xs.length-m-1,by omega⟩;rcases hw.obj k _ M with h0|⟨ak,q1,q2,q3,q4,q5⟩
     ·grind
     rw[t]at q1;cases q1;generalize X:(Builtin.zeroCells z.cells (xs.length-m)).toList=G;have Y:((Array.range ((xs.length-m)*Γ.P.cellsOf E)).map (z.cells[·%z.cells.size]!)).toList=G:=by grind[Builtin.zeroCells]
     rw[Y]at H;obtain⟨e1,e2,e3⟩:=H;simp only[List.length_replicate]at e1;have an:m*Γ.P.cellsOf E+(xs.length-m)*Γ.P.cellsOf E=xs.length*Γ.P.cellsOf E:=by rw[<-Nat.add_mul];grind
     have V:m*Γ.P.cellsOf E+G.length<=o.toList.length:=by grind
     have W:=run_storeCells_at Γ.P (μ k) (m*Γ.P.cellsOf E) E G 0 o w t (by omega) e2;simp only[Nat.add_zero]at W;have ag:(abe o.toList (m*Γ.P.cellsOf E) G).toArray.size=o.size:=by grind[abz]
     have I:(w.setRow (μ k) (abe o.toList (m*Γ.P.cellsOf E) G).toArray).heap[μ k]?=some (.cells (abe o.toList (m*Γ.P.cellsOf E) G).toArray E (0,0)):=setRow_heap w (μ k) o _ E _ t;have aa:∀(i:Nat)(x:PV),(xs.take m++List.replicate (xs.length-m) (toPV (aa8 Γ.P 12 E)))[i]?=some x->Rep Γ.P D w E x ((((abe o.toList (m*Γ.P.cellsOf E) G).toArray).toList.drop (i*Γ.P.cellsOf E)).take (Γ.P.cellsOf E)):=by
      intro i x J;simp only;by_cases ab:i<m
      ·rw[A1 (by grind),List.getElem?_take_of_lt ab]at J;have:(i+1)*Γ.P.cellsOf E<=m*Γ.P.cellsOf E:=Au _ (by omega);grind[Nat.add_mul,adz]
      ·have ah:(xs.take m).length=m:=by grind
       rw[A4 (by omega),ah]at J;have:=e3 (i-m) x J;have al:i-m<xs.length-m:=by grind
       have h2:(i-m+1)*Γ.P.cellsOf E<=(xs.length-m)*Γ.P.cellsOf E:=Au _ (by omega);rw[Nat.add_mul]at h2;have h3:m*Γ.P.cellsOf E+(i-m)*Γ.P.cellsOf E=i*Γ.P.cellsOf E:=by rw[<-Nat.add_mul];grind
       have h4:(((abe o.toList (m*Γ.P.cellsOf E) G).drop (i*Γ.P.cellsOf E)).take (Γ.P.cellsOf E))=((G.drop ((i-m)*Γ.P.cellsOf E)).take (Γ.P.cellsOf E)):=by
        apply List.ext_getElem?;intro j;by_cases hj:j<Γ.P.cellsOf E
        ·rw[List.getElem?_take_of_lt hj,List.getElem?_take_of_lt hj,List.getElem?_drop,List.getElem?_drop,ajv V,if_pos (by omega)];grind
        grind
       grind
     obtain⟨r1,r2⟩:=hw.setArr (xs':=xs.take m++List.replicate (xs.length-m) (toPV (aa8 Γ.P 12 E))) M t af q3 I ag (by simp;omega) (λb hb=>setRow_other w (μ k) b _ hb) (by simp) rfl rfl rfl
      ⟨by grind,aa⟩
     refine⟨.tuple #[],_,?_,_,_,_,_,_,Or.inl rfl,r1,r2,.tup (by simp) (λi s v hs=>by simp at hs)⟩;rw[hn]at X ⊢;simp only[Builtin.clear_,List.getElem?_toArray,List.getElem?_cons_zero,Sem.run_bind,run_underlying hT,Result.andThen_ok,zeroValue,typeInfo,run_program,hi,Sem.run_pure,ad,X,W];rfl
 ·cases h
theorem ar7(J:WRel Γ D ow μ st w)(T V:TypeId)(x y:SV)(xv yv:Value)(v:SV)(st':List BX)(X:SRep Γ.P D w ow μ st x xv)(Y:SRep Γ.P D w ow μ st y yv)(h:acq Γ.P st T x y=.upd true v st'):
 ∃u w',(Builtin.append_ #[T,T] V #[xv,yv]).run Γ.P w=.ok u w'/\OpRes Γ D ow μ st w (.ok (.value u) w') v st':=by
 unfold acq at h
 split at h
 ·rename_i E s;split at h
  ·rename_i j hj;split at h
   ·rename_i F g xs hk;cases G:(aah Γ.P E&&isOf Γ.P E (frzS st s)&&!(blh x j))with
    |false=>grind
    |true=>
     rw[G]at h;simp only[Ad]at h;simp only[Ai]at G;obtain⟨⟨b1,b2⟩,_⟩:=G;obtain⟨h1,m⟩:=J.freezeRow hk;cases Y with
     |@lits _ _ b off L l1 l2 l3 l4=>
      have z:=l4 0 s rfl;rw[Nat.zero_mul,Ar]at z;simp only[Al,Am,Nat.zero_add,Nat.one_mul]at l1;rw[<-l1,List.take_length]at z;have O:=aji (fz:=[j]) J z (λZ aa=>by grind);have m2:Moves (ad0 D ow μ st [j]) w ow μ st (ad0 D ow μ st [j]) w (aqy ow j) μ (st.set j (.arr F (g+1) [])):=⟨λ_ _ d=>d,Keeps.refl _ _,m.box,m.map,m.obj,m.arr,λZ g' e=>by obtain⟨g2,e2,ab,z⟩:=m.acc Z g' e;grind⟩
      have o:=aa9 (O.mono m2) E b2;rw[ang (Or.inl b1) l2]at o;have hl:SRep Γ.P (ad0 D ow μ st [j]) w (aqy ow j) μ (st.set j (.arr F (g+1) [])) (.lit E [toPV (frzS st s)]) (.slice (some ⟨b,off,none⟩) 1 1):=by
       refine SRep.lit (xs:=[toPV (frzS st s)]) (.mk (L:=L) (by simp) (by simp[*]) (λi x hi=>?_) (l3.mono m.dom m.keeps));cases i with
       |zero=>grind
       |succ i=>simp at hi
      obtain⟨u,w',t,u2,w2,D2,U,W,hr,M,H,I⟩:=anw h1 T V x _ xv _ v st' (X.mono m) hl h;exact⟨u,w',t,u2,w2,D2,U,W,hr,M,m.trans H,I⟩
   ·cases h
  ·cases h
 ·exact anw J T V x _ xv yv v st' X Y h
end
end Go.Ab
