/- Composite literals. -/
import Derived.Test.YthokbeimbdnnoaaGreatDoorAbAppend
set_option linter.unusedVariables false
set_option linter.unusedSimpArgs false
set_option linter.unnecessarySimpa false
namespace Go.Ab
open Go
theorem asm (off:Nat):∀ (xs:List Value) (s:Nat) (o:Array Value),off+s+xs.length<=o.size->
 ((xs.zipIdx s).foldl (λcs (p:Value×Nat)=>cs.setIfInBounds (off+p.2) p.1) o).toList=abd o.toList (off+s) xs:=by
 intro xs
 induction xs with
 | nil=>intro s o h;simp [abd]
 | cons x r J=>
  intro s o h
  simp only [Am] at h
  simp only [List.zipIdx_cons,List.foldl_cons]
  rw [J (s+1) _ (by simp;omega),Array.toList_setIfInBounds]
  apply List.ext_getElem?
  intro j
  have I:o.toList.length=o.size:=by simp
  rw [afq (by simp;omega),afq (by simp;omega)]
  simp only [Am]
  by_cases z:off+(s+1)<=j/\j<off+(s+1)+r.length
  ·rw [if_pos z,if_pos (by omega),show j-(off+s)=(j-(off+(s+1)))+1 by omega,List.getElem?_cons_succ]
  ·rw [if_neg z];by_cases H:j=off+s
   ·subst H;rw [if_pos (by omega),List.getElem?_set_self (by omega)];simp
   ·rw [if_neg (by omega),Ar (by omega)]
theorem akg (off:Nat) (v:Array Value) (o:Array Value) (h:off+v.size<=o.size):
 v.zipIdx.foldl (λcs (p:Value×Nat)=>cs.setIfInBounds (off+p.2) p.1) o=(abd o.toList off v.toList).toArray:=by
 rw [<-Array.foldl_toList]
 have:=asm off v.toList 0 o (by simpa using h)
 rw [Nat.add_zero] at this
 rw [<-this]
 simp
section
variable {Γ:Ctx}{D:Dom}{ow:Own}{μ:Nat->Nat}{st:List BX}{w:World}
theorem awo (o:List Field) (h:∀ f,f∈o->Γ.P.cellsOf f.type≠0):(o.mapM λf=>(do pure (f.offset,<-sizeOf f.type):Sem (Nat×Nat))).run Γ.P w=.ok (o.map λf=>(f.offset,Γ.P.cellsOf f.type)) w:=by
 induction o with
 | nil=>simp
 | cons f r M=>obtain ⟨i,I,J⟩:=aa5 (h f (by simp));have z:=M (λg H=>h g (by simp [H]));simp only [List.mapM_cons,Sem.run_bind,aa3 I J,Result.andThen_ok,Sem.run_pure,z,Bh]
theorem avs (T:TypeId) (ds:Array Field) (hT:Γ.P.underlying T=some (.struct ds)) (hL:Laid Γ.P T ds):∀ (ps:List (Nat×SV)) (vs:List (Nat×Value)) (fs I:List SV) (h:Array Value),
 ps.length=vs.length->(∀ (n i:Nat) (s:SV) (j:Nat) (v:Value),ps[n]?=some (i,s)->vs[n]?=some (j,v)->i=j/\SRep Γ.P D w ow μ st s v)->
 (∀ p,p∈ps->ak3 Γ.P ds p=true)->SRep Γ.P D w ow μ st (.agg T fs) (.agg h)->ad3 fs ps=some I->
 ∃ o,Instr.fill (λi=>(ds.map λf=>(f.offset,Γ.P.cellsOf f.type))[i]?) h vs=some o/\SRep Γ.P D w ow μ st (.agg T I) (.agg o):=by
 intro ps
 induction ps with
 | nil=>
  intro vs fs I h hl _ _ hs J
  have:vs=[]:=Bc (by simpa using hl.symm)
  subst this
  simp [ad3] at J;subst J
  exact ⟨h,rfl,hs⟩
 | cons p r ih=>
  intro vs fs I h hl O Z hs J
  cases vs with
  | nil=>simp at hl
  | cons q vr=>
   obtain ⟨i,s⟩:=p
   obtain ⟨j,v⟩:=q
   obtain ⟨am,ah⟩:=O 0 i s j v rfl rfl
   subst am
   have H:=Z (i,s) (by simp)
   simp only [ak3] at H
   cases hf:ds[i]? with
   | none=>rw [hf] at H;cases H
   | some f=>
    rw [hf] at H
    simp only at H
    obtain ⟨f1,f2,f3⟩:=ae9 ah H
    unfold ad3 at J
    cases ab:Nat.blt i fs.length with
    | false=>rw [ab] at J;simp at J
    | true=>
     rw [ab] at J
     simp only [Af] at J
     generalize al:Value.agg h=cv at hs
     cases hs with
     | @agg _ aq _ cs ad an ag ap ao=>
      rw [hT] at ad;cases ad
      have ak:h=cs.toArray:=by simpa using al
      subst ak
      have ar:=hL.inside i f hf
      have ai:v.cells.toList.length=Γ.P.cellsOf f.type:=f1
      have z:f.offset+v.cells.toList.length<=cs.length:=by omega
      have aj:v.cells.size=Γ.P.cellsOf f.type:=by simpa using ai
      have aa:=akg f.offset v.cells cs.toArray (by simp;omega)
      have ae:SRep Γ.P D w ow μ st (.agg T (fs.set i s)) (.agg (abd cs f.offset v.cells.toList).toArray):=by
       refine .agg hT (by rw [abu z];exact an) ?_ (by simpa using ap) (λn x g hn hg=>?_)
       ·intro c M;unfold abd at M;simp only [Bk] at M;rcases M with (M | M) | M
        ·exact ag c (List.mem_of_mem_take M)
        ·exact f2 c M
        ·exact ag c (List.mem_of_mem_drop M)
       ·by_cases af:n=i
        ·subst af;rw [hf] at hg;cases hg;rw [List.getElem?_set_self (Aw ab)] at hn;cases hn;rw [<-ai,amq z,f3];exact ah
        ·rw [Ar (by omega)] at hn;rw [adn z]
         ·exact ao n x g hn hg
         ·rcases Nat.lt_or_gt_of_ne af with h' | h'
          ·have:=hL.apart n i g f hg hf h';omega
          ·have:=hL.apart i n f g hf hg h';omega
      obtain ⟨o,r1,r2⟩:=ih vr (fs.set i s) I _ (by simpa using hl) (λn a b c d h1 h2=>O (n+1) a b c d (by simpa using h1) (by simpa using h2)) (λp hp=>Z p (by simp [hp])) ae J
      refine ⟨o,?_,r2⟩
      unfold Instr.fill
      simp only [Array.getElem?_map,hf,Option.map_some]
      rw [if_neg (by simp [aj];omega)]
      rw [aa]
      simpa using r1
def aw3 (P:Program) (D:Dom) (w:World) (E:TypeId) (xs:List PV) (L:List Value):Prop:=
 L.length=xs.length*P.cellsOf E/\(∀ c,c∈L->c.oneCell'=true)/\∀ (i:Nat) (x:PV),xs[i]?=some x->Rep P D w E x ((L.drop (i*P.cellsOf E)).take (P.cellsOf E))
theorem agx (E:TypeId) (n:Nat):∀ (Z:List (Nat×SV)) (vs:List (Nat×Value)) (xs:List PV) (h:Array Value),
 Z.length=vs.length->(∀ (m i:Nat) (s:SV) (j:Nat) (v:Value),Z[m]?=some (i,s)->vs[m]?=some (j,v)->i=j/\SRep Γ.P D w ow μ st s v)->
 (∀ p,p∈Z->aer Γ.P n E p=true)->(∀ p,p∈Z->∀ v,SRep Γ.P D w ow μ st p.2 v->v.cells.toList.length=Γ.P.cellsOf E)->xs.length=n->aw3 Γ.P D w E xs h.toList->
 ∃ o,Instr.fill (λi=>some (i*Γ.P.cellsOf E,Γ.P.cellsOf E)) h vs=some o/\(ac3 xs Z).length=n/\aw3 Γ.P D w E (ac3 xs Z) o.toList:=by
 intro Z
 induction Z with
 | nil=>
  intro vs xs h hl _ _ _ hn hs
  have:vs=[]:=Bc (by simpa using hl.symm)
  subst this
  exact ⟨h,rfl,hn,hs⟩
 | cons p r ih=>
  intro vs xs h hl I J M hn hs
  cases vs with
  | nil=>simp at hl
  | cons q vr=>
   obtain ⟨i,s⟩:=p
   obtain ⟨j,v⟩:=q
   obtain ⟨aj,ah⟩:=I 0 i s j v rfl rfl
   subst aj
   have aa:=J (i,s) (by simp)
   simp only [aer,Ai] at aa
   have ak:i<n:=Aw aa.1
   have O:=abh ah E aa.2
   have ad:v.cells.toList.length=Γ.P.cellsOf E:=M (i,s) (by simp) v ah
   have ai:v.cells.size=Γ.P.cellsOf E:=by simpa using ad
   obtain ⟨e1,e2,e3⟩:=hs
   have af:(i+1)*Γ.P.cellsOf E<=n*Γ.P.cellsOf E:=Ay _ (by omega)
   rw [Nat.add_mul] at af
   have z:i*Γ.P.cellsOf E+v.cells.toList.length<=h.toList.length:=by rw [e1,hn];omega
   have ab:=akg (i*Γ.P.cellsOf E) v.cells h (by simp at z;omega)
   have ag:aw3 Γ.P D w E (xs.set i (toPV s)) (abd h.toList (i*Γ.P.cellsOf E) v.cells.toList):=by
    refine ⟨by rw [abu z,e1];simp,?_,λm x hm=>?_⟩
    ·intro c H;unfold abd at H;simp only [Bk] at H;rcases H with (H | H) | H
     ·exact e2 c (List.mem_of_mem_take H)
     ·exact O.oneCell c H
     ·exact e2 c (List.mem_of_mem_drop H)
    ·by_cases ae:m=i
     ·subst ae;rw [List.getElem?_set_self (by omega)] at hm;cases hm;have:=amq z;rw [ad] at this;rw [this];exact O
     ·rw [Ar (by omega)] at hm;rw [adn z]
      ·exact e3 m x hm
      ·rw [ad];rcases Nat.lt_or_gt_of_ne ae with h' | h'
       ·have:(m+1)*Γ.P.cellsOf E<=i*Γ.P.cellsOf E:=Ay _ (by omega);rw [Nat.add_mul] at this;omega
       ·have:(i+1)*Γ.P.cellsOf E<=m*Γ.P.cellsOf E:=Ay _ (by omega);rw [Nat.add_mul] at this;omega
   obtain ⟨o,r1,r2,r3⟩:=ih vr (xs.set i (toPV s)) (abd h.toList (i*Γ.P.cellsOf E) v.cells.toList).toArray (by simpa using hl) (λm a b c d h1 h2=>I (m+1) a b c d (by simpa using h1) (by simpa using h2)) (λp hp=>J p (by simp [hp])) (λp hp=>M p (by simp [hp])) (by simpa using hn) (by simpa using ag)
   refine ⟨o,?_,r2,r3⟩
   unfold Instr.fill
   simp only
   rw [if_neg (by simp at z;simp [ai];omega),ab]
   exact r1
theorem asa (T:TypeId) (O:List (Nat×SV)) (vs:Array (Nat×Value)) (v:SV) (hl:O.length=vs.size) (Z:∀ (n i:Nat) (s:SV) (j:Nat) (u:Value),O[n]?=some (i,s)->vs[n]?=some (j,u)->i=j/\SRep Γ.P D w ow μ st s u) (h:ah7 Γ.P T O=.val true v):
 ∃ u,(Instr.build T vs).run Γ.P w=.ok u w/\SRep Γ.P D w ow μ st v u:=by
 unfold ah7 at h
 split at h
 ·rename_i n E T' zs I hz;cases M:(ack Γ.P T&&aa1 Γ.P E&&Nat.beq (Γ.P.cellsOf T) (n*Γ.P.cellsOf E)&&O.all (aer Γ.P n E)) with
  | false=>rw [M] at h;simp at h
  | true=>
   rw [M] at h;simp only [Af,Ac.val.injEq,true_and] at h;subst h;simp only [Ai,aa1,Bool.not_eq_true',Bd] at M;obtain ⟨⟨⟨c1,⟨c2,ay⟩,aj⟩,c3⟩,c4⟩:=M;have c3:=Aa c3;have an:Γ.P.cellsOf E≠0:=λh0=>by rw [h0] at c2;cases c2
   obtain ⟨ie,ak,ar⟩:=aa5 an;obtain ⟨ax,z,hi,ad,al,av,ai,H,au⟩:=abw (Γ:=Γ) (D:=D) (ow:=ow) (μ:=μ) (st:=st) (w:=w) c1;have aa:T'=T:=by simp only [abk,I] at hz;cases hz;rfl
   subst aa;rw [hz] at H;have ha:aak Γ.P T'=true:=by simp [aak,I]
   have af:aw3 Γ.P D w E zs z.cells.toList/\zs.length=n:=by
    generalize aw:z=zz at H;cases H with
    | data _ hr=>
     cases hr with
     | agg J=>rw [I] at J;cases J
     | arr J am ao ah aq=>rw [I] at J;cases J;simp only [aw,Value.cells];exact ⟨⟨by rw [am,c3,ah],ao,aq⟩,ah⟩
   obtain ⟨o,r1,r2,r3⟩:=agx (Γ:=Γ) (D:=D) (w:=w) (ow:=ow) (μ:=μ) (st:=st) E n O vs.toList zs z.cells (by simpa using hl) (λm i s j u h1 h2=>Z m i s j u h1 (by simpa using h2)) (λp hp=>List.all_eq_true.1 c4 p hp)
    (λp hp v hv=>by
     have hf:=List.all_eq_true.1 c4 p hp;simp only [aer,Ai] at hf;have hr:=abh hv E hf.2;cases ab:aak Γ.P E with
     | true=>exact hr.aggLen ab
     | false=>
      rcases aj with h' | h'
      ·rw [ab] at h';cases h'
      ·obtain ⟨u,hu⟩:=hr.single ab;rw [hu,Aa h'];rfl) af.2 af.1
   obtain ⟨e1,e2,e3⟩:=r3;refine ⟨.agg o,by simp only [Instr.build,Sem.run_bind,zeroValue,typeInfo,run_program,Result.andThen_ok,hi,Sem.run_pure,ad,run_underlying I,aa3 ak ar,r1],?_⟩;have:=SRep.data (P:=Γ.P) (D:=D) (w:=w) (ow:=ow) (μ:=μ) (st:=st) (T:=T') (v:=.agg (ac3 zs O)) (cs:=o.toList) ha (.arr I (by rw [e1,r2,c3]) e2 r2 e3);simpa using this
 ·rename_i ds T' zs I hz;cases M:(ack Γ.P T&&abx Γ.P T&&O.all (ak3 Γ.P ds)) with
  | false=>rw [M] at h;simp at h
  | true=>
   rw [M] at h;simp only [Af] at h;simp only [Ai] at M;obtain ⟨⟨c1,c2⟩,c3⟩:=M;have hL:=ab7 c2 I;cases hb:ad3 zs O with
   | none=>rw [hb] at h;simp at h
   | some fs=>
    rw [hb] at h;simp only [Ac.val.injEq,true_and] at h;subst h;obtain ⟨ax,z,hi,ad,al,av,ai,H,au⟩:=abw (Γ:=Γ) (D:=D) (ow:=ow) (μ:=μ) (st:=st) (w:=w) c1;have aa:T'=T:=by simp only [abk,I] at hz;cases hz;rfl
    subst aa;rw [hz] at H;have ae:z=.agg z.cells:=by
     have ha:aak Γ.P T'=true:=by simp [aak,I]
     rw [ai];simp [pack,ha,Value.cells]
    rw [ae] at H;obtain ⟨o,r1,r2⟩:=avs T' ds I hL O vs.toList zs fs z.cells (by simpa using hl) (λn i s j u h1 h2=>Z n i s j u h1 (by simpa using h2)) (λp hp=>by exact List.all_eq_true.1 c3 p hp) H hb
    refine ⟨.agg o,?_,r2⟩;have ap:=awo (Γ:=Γ) (w:=w) ds.toList (λf hf=>by obtain ⟨i,hi⟩:=List.mem_iff_getElem?.1 hf;have:=hL.pos i f (by simpa using hi);omega)
    have ag:(ds.mapM λf=>(do pure (f.offset,<-sizeOf f.type):Sem (Nat×Nat))).run Γ.P w=.ok (ds.map λf=>(f.offset,Γ.P.cellsOf f.type)) w:=by rw [Array.mapM_eq_mapM_toList,Sem.run_map,ap];simp only [Result.andThen_ok];congr 1;apply Array.ext';simp
    simp only [Instr.build,Sem.run_bind,zeroValue,typeInfo,run_program,Result.andThen_ok,hi,Sem.run_pure,ad,run_underlying I,ag,r1]
 ·simp at h
theorem au5 (E:TypeId) (n:Nat) (z:PV) (zs:Array Value) (H:zs.size=Γ.P.cellsOf E) (aa:0<Γ.P.cellsOf E) (hr:Rep Γ.P D w E z zs.toList):aw3 Γ.P D w E (List.replicate n z) ((Array.range (n*Γ.P.cellsOf E)).map (zs[·%zs.size]!)).toList:=by
 have h:∀ j,j<n*Γ.P.cellsOf E->((Array.range (n*Γ.P.cellsOf E)).map (zs[·%zs.size]!)).toList[j]?=zs.toList[j%Γ.P.cellsOf E]?:=by
  intro j o;have J:j%Γ.P.cellsOf E<zs.size:=by rw [H];exact Nat.mod_lt _ aa
  rw [Array.toList_map,Bf];have:(Array.range (n*Γ.P.cellsOf E)).toList[j]?=some j:=by simp [o]
  rw [this];rw [<-H] at J ⊢;simp only [Option.map_some];rw [getElem!_pos zs _ (by rw [H];rw [H] at J;exact J)];simp [H▸J]
 refine ⟨by simp,λc hc=>?_,λi x hi=>?_⟩
 ·obtain ⟨j,o,rfl⟩:=List.mem_iff_getElem.1 hc;have O:j<n*Γ.P.cellsOf E:=by simpa using o
  have:=h j O;rw [Aq o] at this;exact hr.oneCell _ (List.mem_iff_getElem?.2 ⟨_,this.symm⟩)
 ·have M:=(List.getElem?_eq_some_iff.1 hi);obtain ⟨Z,hx⟩:=M;simp at Z;simp at hx;subst hx;have I:(i+1)*Γ.P.cellsOf E<=n*Γ.P.cellsOf E:=Ay _ (by omega);rw [Nat.add_mul] at I;have e:((((Array.range (n*Γ.P.cellsOf E)).map (zs[·%zs.size]!)).toList.drop (i*Γ.P.cellsOf E)).take (Γ.P.cellsOf E))=zs.toList:=by
   apply List.ext_getElem?;intro j;by_cases o:j<Γ.P.cellsOf E
   ·rw [List.getElem?_take_of_lt o,List.getElem?_drop,h _ (by omega),Nat.mul_comm i,Nat.mul_add_mod,Nat.mod_eq_of_lt o]
   ·rw [A4 (by simp;omega),A4 (by simp [H];omega)]
  rw [e];exact hr
theorem ako (hw:WRel Γ D ow μ st w) (T:TypeId) (n:Nat) (Z:List (Nat×SV)) (vs:Array (Nat×Value)) (v:SV) (hl:Z.length=vs.size) (aa:∀ (m i:Nat) (s:SV) (j:Nat) (u:Value),Z[m]?=some (i,s)->vs[m]?=some (j,u)->i=j/\SRep Γ.P D w ow μ st s u) (h:acn Γ.P T n Z=.val true v):
 ∃ u w',(Instr.buildSlice T n vs).run Γ.P w=.ok u w'/\OpRes Γ D ow μ st w (.ok (.value u) w') v st:=by
 unfold acn at h
 split at h
 ·rename_i E hT;cases hc:(ack Γ.P E&&isOf Γ.P E (abk Γ.P 12 E)&&!(Nat.beq (Γ.P.cellsOf E) 0)&&Nat.ble (n*Γ.P.cellsOf E) 4096&&Z.all (aer Γ.P n E)) with
  | false=>rw [hc] at h;simp at h
  | true=>
   rw [hc] at h;simp only [Af,Ac.val.injEq,true_and] at h;subst h;simp only [Ai,Bool.not_eq_true'] at hc;obtain ⟨⟨⟨⟨c1,c2⟩,c3⟩,c4⟩,c5⟩:=hc;have aj:0<Γ.P.cellsOf E:=by
    rcases Nat.eq_zero_or_pos (Γ.P.cellsOf E) with M | M
    ·rw [M] at c3;cases c3
    ·exact M
   have ag:n*Γ.P.cellsOf E<=4096:=Aw c4;obtain ⟨aq,z,hi,ai,ah,af,ao,al,ap⟩:=abw (Γ:=Γ) (D:=D) (ow:=ow) (μ:=μ) (st:=st) (w:=w) c1;have J:=abh al E c2;have ae:=au5 (Γ:=Γ) (D:=D) (w:=w) E n (toPV (abk Γ.P 12 E)) z.cells af aj J;have O:aak Γ.P E=true\/Γ.P.cellsOf E=1:=by
    cases ha:aak Γ.P E with
    | true=>exact Or.inl rfl
    | false=>obtain ⟨u,hu⟩:=J.single ha;right;rw [<-af];have:=congrArg List.length hu;simpa using this
   obtain ⟨H,r1,r2,r3⟩:=agx (Γ:=Γ) (D:=D) (w:=w) (ow:=ow) (μ:=μ) (st:=st) E n Z vs.toList _ _ (by simpa using hl) (λm i s j u h1 h2=>aa m i s j u h1 (by simpa using h2)) (λp hp=>List.all_eq_true.1 c5 p hp)
    (λp hp v hv=>by
     have hf:=List.all_eq_true.1 c5 p hp;simp only [aer,Ai] at hf;have hr:=abh hv E hf.2;rcases O with ha | h1
     ·exact hr.aggLen ha
     ·cases ha:aak Γ.P E with
      | true=>exact hr.aggLen ha
      | false=>obtain ⟨u,hu⟩:=hr.single ha;rw [hu,h1];rfl) (by simp) ae
   obtain ⟨e1,e2,e3⟩:=r3;refine ⟨.slice (some ⟨w.heap.size,0,none⟩) n n,w.alloc (.cells H E),?_,?_⟩
   ·have ab:¬(n*Γ.P.cellsOf E>2^24):=by omega
    simp only [Instr.buildSlice,Sem.run_bind,run_underlying hT,Result.andThen_ok,aa3 hi ah];rw [if_neg ab];by_cases M:n*Γ.P.cellsOf E=0
    ·rw [if_pos M];have am:Instr.fill (λi=>some (i*Γ.P.cellsOf E,Γ.P.cellsOf E)) ((Array.range (n*Γ.P.cellsOf E)).map ((#[]:Array Value)[·%(#[]:Array Value).size]!)) vs.toList=some H:=by
      have ak:∀ f g:Nat->Value,(Array.range 0).map f=(Array.range 0).map g:=λf g=>by apply Array.ext';simp
      rw [<-r1,M];exact congrArg (λc=>Instr.fill _ c vs.toList) (ak _ _)
     simp only [pure_bind,am];simp [newRow]
    ·rw [if_neg M];simp only [pure_bind,Sem.run_bind,zeroValue,typeInfo,run_program,Result.andThen_ok,hi,Sem.run_pure,ai,r1];simp [newRow]
   ·have I:(ac3 (List.replicate n (toPV (abk Γ.P 12 E))) Z).length=n:=r2;have g:=Grew.alloc w (.cells H E);refine OpRes.grew hw (D':=λb o=>D b o\/(b=w.heap.size/\o<H.toList.length)) rfl g (λb o d=>Or.inl d) (λb o d=>d.imp id (λd=>⟨by omega,by rw [d.1];simp⟩)) (λm=>?_);have ad:=SliceRep.mk (P:=Γ.P) (D:=λb o=>D b o\/(b=w.heap.size/\o<H.toList.length)) (w:=w.alloc (.cells H E)) (E:=E) (b:=w.heap.size) (off:=0) (cap:=n) (xs:=ac3 (List.replicate n (toPV (abk Γ.P 12 E))) Z) (L:=H.toList)
     (by omega) e1 (λi x hx=>(e3 i x hx).mono m.dom m.keeps) (λj u hj=>by have an:=(List.getElem?_eq_some_iff.1 hj).1;refine ⟨Or.inr ⟨rfl,by omega⟩,?_⟩;rw [Nat.zero_add,World.cell?_alloc_new];simpa using hj)
    rw [I] at ad;have hl:=SRep.lit (P:=Γ.P) (w:=w.alloc (.cells H E)) (ow:=ow) (μ:=μ) (st:=st) (by rw [I];exact ad);rw [I] at hl;exact hl
 ·simp at h
theorem ao8 (hw:WRel Γ D ow μ st w) (T:TypeId) (x y:SV) (xv yv:Value) (v:SV) (st':List BX) (J:SRep Γ.P D w ow μ st x xv) (hy:SRep Γ.P D w ow μ st y yv) (h:aeh Γ.P T x y st=.upd true v st'):
 ∃ u w',(Instr.makeSlice T xv yv).run Γ.P w=.ok u w'/\OpRes Γ D ow μ st w (.ok (.value u) w') v st':=by
 unfold aeh at h
 split at h
 ·rename_i E m c hT;cases hc:(ack Γ.P E&&isOf Γ.P E (abk Γ.P 12 E)&&!(Nat.beq (Γ.P.cellsOf E) 0)&&Nat.ble (Γ.P.bytesOf E) 512) with
  | false=>rw [hc] at h;cases h
  | true=>
   rw [hc] at h;simp only [Af,Ac.upd.injEq,A6] at h;obtain ⟨hb,rfl,rfl⟩:=h;simp only [Ai,Bool.not_eq_true'] at hc;obtain ⟨⟨⟨c1,c0⟩,c2⟩,c3⟩:=hc;have aj:0<Γ.P.cellsOf E:=by
    rcases Nat.eq_zero_or_pos (Γ.P.cellsOf E) with h0 | h0
    ·rw [h0] at c2;cases c2
    ·exact h0
   have ae:Γ.P.bytesOf E<=512:=Aw c3;obtain ⟨H,z,hi,ah,Z,al,am,ak,an⟩:=abw (Γ:=Γ) (D:=D) (ow:=ow) (μ:=μ) (st:=st) (w:=w) c1;have ag:H.bytes=Γ.P.bytesOf E:=by simp [Program.bytesOf,hi]
   cases J;cases hy;obtain ⟨m,rfl⟩:∃ n:Nat,m=(n:Int):=⟨m.toNat,by omega⟩;obtain ⟨n,rfl⟩:∃ n:Nat,c=(n:Int):=⟨c.toNat,by omega⟩;have hn:n<=68719476736:=by unfold aae at hb;omega
   have ad:(H.bytes:Int)*(n:Int)<=281474976710656:=by
    have h1:H.bytes*n<=512*68719476736:=Nat.mul_le_mul (by rw [ag];exact ae) hn;have h2:((H.bytes*n:Nat):Int)<=281474976710656:=by omega
    rwa [Int.natCast_mul] at h2
   have hr:=run_make (P:=Γ.P) w T E H z hT hi ah .i64 .i64 m n (by omega) (by omega) ad (by omega);simp only [Aj] at hr;have M:=abh (ak) E c0;refine ⟨_,_,hr,?_⟩;have ab:=au5 (Γ:=Γ) (D:=D) (w:=w) E n (toPV (abk Γ.P 12 E)) z.cells al aj M;have aa:m<=n:=by omega
   have O:(madeCells z.cells (n*H.size)).size=n*Γ.P.cellsOf E:=by rw [size_madeCells,Z]
   have I:(w.alloc (.cells (madeCells z.cells (n*H.size)) E)).heap[w.heap.size]?=some (.cells (madeCells z.cells (n*H.size)) E (0,0)):=aas w _;have af:∀ (i:Nat) (x:PV),(List.replicate m (toPV (abk Γ.P 12 E)))[i]?=some x->Rep Γ.P D w E x (((madeCells z.cells (n*H.size)).toList.drop (i*Γ.P.cellsOf E)).take (Γ.P.cellsOf E)):=by
    intro i x J;have ai:i<m:=by have:=(List.getElem?_eq_some_iff.1 J).1;simpa using this
    rw [List.getElem?_replicate,if_pos ai] at J;have:=ab.2.2 i x (by rw [List.getElem?_replicate,if_pos (by omega)];exact J);rw [Z];exact this
   obtain ⟨u1,u2⟩:=hw.newOwn (.cells (madeCells z.cells (n*H.size)) E) (.arr E 0 (List.replicate m (toPV (abk Γ.P 12 E)))) (λmv=>by
    refine Or.inr ⟨madeCells z.cells (n*H.size),by rw [aah];exact I,by rw [aah,aah],λo d=>?_,?_,λi x J=>(af i x J).mono mv.dom mv.keeps⟩
    ·rw [aah] at d;have:=hw.dlt _ _ d;omega
    ·rw [O];simpa using Ay _ aa)
   refine ⟨_,_,_,_,_,Or.inl rfl,u1,u2,?_⟩;have hk:(st++[BX.arr E 0 (List.replicate m (toPV (abk Γ.P 12 E)))])[st.length]?=some (.arr E 0 (List.replicate m (toPV (abk Γ.P 12 E)))):=by rw [Av (Nat.le_refl _)];simp
   have:=SRep.arr (P:=Γ.P) (D:=D) (w:=w.alloc (.cells (madeCells z.cells (n*H.size)) E)) (ow:=upd ow w.heap.size (some st.length)) (μ:=upd μ st.length w.heap.size) (cap:=n) hk (by simpa using aa) (by unfold maxLen;omega) (by rw [aah];exact I) (by rw [aah,aah]) O.symm;rw [aah] at this;simpa using this
 ·cases h
end
end Go.Ab
