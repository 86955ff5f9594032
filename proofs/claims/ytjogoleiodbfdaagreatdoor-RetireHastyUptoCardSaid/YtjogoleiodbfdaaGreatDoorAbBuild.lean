/- Composite literals. -/
import Derived.Test.YtjogoleiodbfdaaGreatDoorAbAppend
set_option linter.unusedVariables false
set_option linter.unusedSimpArgs false
set_option linter.unnecessarySimpa false
namespace Go.Ab
open Go
theorem at0 (off:Nat):∀ (xs:List Value) (s:Nat) (o:Array Value),off+s+xs.length<=o.size->
 ((xs.zipIdx s).foldl (λcs (p:Value×Nat)=>cs.setIfInBounds (off+p.2) p.1) o).toList=abi o.toList (off+s) xs:=by
 intro xs
 induction xs with
 | nil=>intro s o h;simp [abi]
 | cons x r I=>
  intro s o h
  simp only [Am] at h
  simp only [List.zipIdx_cons,List.foldl_cons]
  rw [I (s+1) _ (by simp;omega),Array.toList_setIfInBounds]
  apply List.ext_getElem?
  intro j
  have H:o.toList.length=o.size:=by simp
  rw [af5 (by simp;omega),af5 (by simp;omega)]
  grind
theorem ala (off:Nat) (v:Array Value) (o:Array Value) (h:off+v.size<=o.size):
 v.zipIdx.foldl (λcs (p:Value×Nat)=>cs.setIfInBounds (off+p.2) p.1) o=(abi o.toList off v.toList).toArray:=by
 rw [<-Array.foldl_toList]
 have:=at0 off v.toList 0 o (by simpa using h)
 grind
section
variable {Γ:Ctx}{D:Dom}{ow:Own}{μ:Nat->Nat}{st:List BX}{w:World}
theorem aym (o:List Field) (h:∀ f,f∈o->Γ.P.cellsOf f.type≠0):(o.mapM λf=>(do pure (f.offset,<-sizeOf f.type):Sem (Nat×Nat))).run Γ.P w=.ok (o.map λf=>(f.offset,Γ.P.cellsOf f.type)) w:=by
 induction o with
 | nil=>simp
 | cons f r O=>obtain ⟨i,J,M⟩:=aa7 (h f (by simp));have H:=O (λg I=>h g (by simp [I]));simp only [List.mapM_cons,Sem.run_bind,aa5 J M,Result.andThen_ok,Sem.run_pure,H,Bh]
theorem axk (T:TypeId) (ds:Array Field) (hT:Γ.P.underlying T=some (.struct ds)) (hL:Laid Γ.P T ds):∀ (ps:List (Nat×SV)) (vs:List (Nat×Value)) (O H:List SV) (h:Array Value),
 ps.length=vs.length->(∀ (n i:Nat) (s:SV) (j:Nat) (v:Value),ps[n]?=some (i,s)->vs[n]?=some (j,v)->i=j/\SRep Γ.P D w ow μ st s v)->
 (∀ p,p∈ps->al0 Γ.P ds p=true)->SRep Γ.P D w ow μ st (.agg T O) (.agg h)->aed O ps=some H->
 ∃ o,Instr.fill (λi=>(ds.map λf=>(f.offset,Γ.P.cellsOf f.type))[i]?) h vs=some o/\SRep Γ.P D w ow μ st (.agg T H) (.agg o):=by
 intro ps
 induction ps with
 | nil=>
  intro vs O H h hl _ _ hs Z
  have:vs=[]:=Bc (by grind)
  subst this
  simp [aed] at Z;subst Z
  exact ⟨h,rfl,hs⟩
 | cons p r ih=>
  intro vs O H h hl J M hs Z
  cases vs with
  | nil=>simp at hl
  | cons q vr=>
   obtain ⟨i,s⟩:=p
   obtain ⟨j,v⟩:=q
   obtain ⟨ah,ak⟩:=J 0 i s j v rfl rfl
   subst ah
   have I:=M (i,s) (by simp)
   simp only [al0] at I
   cases hf:ds[i]? with
   | none=>grind
   | some f=>
    rw [hf] at I
    simp only at I
    obtain ⟨f1,f2,f3⟩:=afm ak I
    unfold aed at Z
    cases ai:Nat.blt i O.length with
    | false=>grind
    | true=>
     rw [ai] at Z
     simp only [Af] at Z
     generalize af:Value.agg h=cv at hs
     cases hs with
     | @agg _ ao _ cs ab aq ar al au=>
      rw [hT] at ab;cases ab
      have ae:h=cs.toArray:=by simpa using af
      subst ae
      have ap:=hL.inside i f hf
      have am:v.cells.toList.length=Γ.P.cellsOf f.type:=f1
      have aa:f.offset+v.cells.toList.length<=cs.length:=by omega
      have an:v.cells.size=Γ.P.cellsOf f.type:=by simpa using am
      have ag:=ala f.offset v.cells cs.toArray (by simp;omega)
      have ad:SRep Γ.P D w ow μ st (.agg T (O.set i s)) (.agg (abi cs f.offset v.cells.toList).toArray):=by
       refine .agg hT (by grind [ab1]) ?_ (by simpa using al) (λn x g hn hg=>?_)
       ·grind [abi,List.mem_of_mem_take,List.mem_of_mem_drop]
       ·by_cases aj:n=i
        ·grind [List.getElem?_set_self,Nat.le_of_ble_eq_true,ans]
        ·rw [Aq (by omega)] at hn;rw [ad1 aa]
         ·grind
         ·rcases Nat.lt_or_gt_of_ne aj with h' | h'
          ·have:=hL.apart n i g f hg hf h';omega
          ·have:=hL.apart i n f g hf hg h';omega
      obtain ⟨o,r1,r2⟩:=ih vr (O.set i s) H _ (by simpa using hl) (λn a b c d h1 h2=>J (n+1) a b c d (by simpa using h1) (by simpa using h2)) (λp hp=>M p (by simp [hp])) ad Z
      refine ⟨o,?_,r2⟩
      unfold Instr.fill
      grind
def ay1 (P:Program) (D:Dom) (w:World) (E:TypeId) (xs:List PV) (L:List Value):Prop:=
 L.length=xs.length*P.cellsOf E/\(∀ c,c∈L->c.oneCell'=true)/\∀ (i:Nat) (x:PV),xs[i]?=some x->Rep P D w E x ((L.drop (i*P.cellsOf E)).take (P.cellsOf E))
theorem ag7 (E:TypeId) (n:Nat):∀ (M:List (Nat×SV)) (vs:List (Nat×Value)) (xs:List PV) (h:Array Value),
 M.length=vs.length->(∀ (m i:Nat) (s:SV) (j:Nat) (v:Value),M[m]?=some (i,s)->vs[m]?=some (j,v)->i=j/\SRep Γ.P D w ow μ st s v)->
 (∀ p,p∈M->ae2 Γ.P n E p=true)->(∀ p,p∈M->∀ v,SRep Γ.P D w ow μ st p.2 v->v.cells.toList.length=Γ.P.cellsOf E)->xs.length=n->ay1 Γ.P D w E xs h.toList->
 ∃ o,Instr.fill (λi=>some (i*Γ.P.cellsOf E,Γ.P.cellsOf E)) h vs=some o/\(adf xs M).length=n/\ay1 Γ.P D w E (adf xs M) o.toList:=by
 intro M
 induction M with
 | nil=>
  intro vs xs h hl _ _ _ hn hs
  have:vs=[]:=Bc (by grind)
  subst this
  exact ⟨h,rfl,hn,hs⟩
 | cons p r ih=>
  intro vs xs h hl H I J hn hs
  cases vs with
  | nil=>simp at hl
  | cons q vr=>
   obtain ⟨i,s⟩:=p
   obtain ⟨j,v⟩:=q
   obtain ⟨ai,af⟩:=H 0 i s j v rfl rfl
   subst ai
   have Z:=I (i,s) (by simp)
   simp only [ae2,Aj] at Z
   have al:i<n:=Au Z.1
   have ae:=aba af E Z.2
   have ag:v.cells.toList.length=Γ.P.cellsOf E:=J (i,s) (by simp) v af
   have ak:v.cells.size=Γ.P.cellsOf E:=by simpa using ag
   obtain ⟨e1,e2,e3⟩:=hs
   have ab:(i+1)*Γ.P.cellsOf E<=n*Γ.P.cellsOf E:=Aw _ (by omega)
   rw [Nat.add_mul] at ab
   have aa:i*Γ.P.cellsOf E+v.cells.toList.length<=h.toList.length:=by grind
   have ah:=ala (i*Γ.P.cellsOf E) v.cells h (by grind)
   have ad:ay1 Γ.P D w E (xs.set i (toPV s)) (abi h.toList (i*Γ.P.cellsOf E) v.cells.toList):=by
    refine ⟨by grind [ab1],?_,λm x hm=>?_⟩
    ·intro c O;unfold abi at O;simp only [Bo] at O;rcases O with (O | O) | O
     ·grind
     ·exact ae.oneCell c O
     grind
    ·by_cases aj:m=i
     ·grind [List.getElem?_set_self,ans]
     ·rw [Aq (by omega)] at hm;rw [ad1 aa]
      ·exact e3 m x hm
      ·rw [ag];rcases Nat.lt_or_gt_of_ne aj with h' | h'
       ·have:(m+1)*Γ.P.cellsOf E<=i*Γ.P.cellsOf E:=Aw _ (by omega);grind
       ·have:(i+1)*Γ.P.cellsOf E<=m*Γ.P.cellsOf E:=Aw _ (by omega);grind
   obtain ⟨o,r1,r2,r3⟩:=ih vr (xs.set i (toPV s)) (abi h.toList (i*Γ.P.cellsOf E) v.cells.toList).toArray (by simpa using hl) (λm a b c d h1 h2=>H (m+1) a b c d (by simpa using h1) (by simpa using h2)) (λp hp=>I p (by simp [hp])) (λp hp=>J p (by simp [hp])) (by simpa using hn) (by simpa using ad)
   refine ⟨o,?_,r2,r3⟩
   unfold Instr.fill
   grind
theorem atn (T:TypeId) (I:List (Nat×SV)) (vs:Array (Nat×Value)) (v:SV) (hl:I.length=vs.size) (M:∀ (n i:Nat) (s:SV) (j:Nat) (u:Value),I[n]?=some (i,s)->vs[n]?=some (j,u)->i=j/\SRep Γ.P D w ow μ st s u) (h:aiq Γ.P T I=.val true v):
 ∃ u,(Instr.build T vs).run Γ.P w=.ok u w/\SRep Γ.P D w ow μ st v u:=by
 unfold aiq at h
 split at h
 ·rename_i n E T' zs J hz;cases hc:(aca Γ.P T&&aa4 Γ.P E&&Nat.beq (Γ.P.cellsOf T) (n*Γ.P.cellsOf E)&&I.all (ae2 Γ.P n E)) with
  | false=>grind
  | true=>
   rw [hc] at h;simp only [Af,Ac.val.injEq,true_and] at h;subst h;simp only [Aj,aa4,Bool.not_eq_true',Bd] at hc;obtain ⟨⟨⟨c1,⟨c2,ax⟩,ah⟩,c3⟩,c4⟩:=hc;have c3:=Ae c3;have al:Γ.P.cellsOf E≠0:=λh0=>by grind
   obtain ⟨ie,ai,ap⟩:=aa7 al;obtain ⟨aw,z,hi,aa,aj,au,aq,H,ar⟩:=abt (Γ:=Γ) (D:=D) (ow:=ow) (μ:=μ) (st:=st) (w:=w) c1;have Z:T'=T:=by grind [abd]
   subst Z;rw [hz] at H;have ha:aal Γ.P T'=true:=by simp [aal,J]
   have ae:ay1 Γ.P D w E zs z.cells.toList/\zs.length=n:=by
    generalize av:z=zz at H;cases H with
    | data _ hr=>
     cases hr with
     | agg O=>grind
     | arr O ak am ag ao=>rw [J] at O;cases O;simp only [av,Value.cells];exact ⟨⟨by rw [ak,c3,ag],am,ao⟩,ag⟩
   obtain ⟨o,r1,r2,r3⟩:=ag7 (Γ:=Γ) (D:=D) (w:=w) (ow:=ow) (μ:=μ) (st:=st) E n I vs.toList zs z.cells (by simpa using hl) (λm i s j u h1 h2=>M m i s j u h1 (by simpa using h2)) (λp hp=>Bs.1 c4 p hp)
    (λp hp v hv=>by
     have hf:=Bs.1 c4 p hp;simp only [ae2,Aj] at hf;have hr:=aba hv E hf.2;cases ad:aal Γ.P E with
     | true=>exact hr.aggLen ad
     | false=>
      rcases ah with h' | h'
      ·grind
      ·obtain ⟨u,hu⟩:=hr.single ad;grind [Nat.eq_of_beq_eq_true]) ae.2 ae.1
   obtain ⟨e1,e2,e3⟩:=r3;refine ⟨.agg o,by simp only [Instr.build,Sem.run_bind,zeroValue,typeInfo,run_program,Result.andThen_ok,hi,Sem.run_pure,aa,run_underlying J,aa5 ai ap,r1],?_⟩;have:=SRep.data (P:=Γ.P) (D:=D) (w:=w) (ow:=ow) (μ:=μ) (st:=st) (T:=T') (v:=.agg (adf zs I)) (cs:=o.toList) ha (.arr J (by rw [e1,r2,c3]) e2 r2 e3);simpa using this
 ·rename_i ds T' zs J hz;cases hc:(aca Γ.P T&&acf Γ.P T&&I.all (al0 Γ.P ds)) with
  | false=>grind
  | true=>
   rw [hc] at h;simp only [Af] at h;simp only [Aj] at hc;obtain ⟨⟨c1,c2⟩,c3⟩:=hc;have hL:=acg c2 J;cases hb:aed zs I with
   | none=>grind
   | some fs=>
    rw [hb] at h;simp only [Ac.val.injEq,true_and] at h;subst h;obtain ⟨aw,z,hi,aa,aj,au,aq,H,ar⟩:=abt (Γ:=Γ) (D:=D) (ow:=ow) (μ:=μ) (st:=st) (w:=w) c1;have Z:T'=T:=by grind [abd]
    subst Z;rw [hz] at H;have ab:z=.agg z.cells:=by grind [aal,pack,Value.cells]
    rw [ab] at H;obtain ⟨o,r1,r2⟩:=axk T' ds J hL I vs.toList zs fs z.cells (by simpa using hl) (λn i s j u h1 h2=>M n i s j u h1 (by simpa using h2)) (λp hp=>by grind) H hb
    refine ⟨.agg o,?_,r2⟩;have an:=aym (Γ:=Γ) (w:=w) ds.toList (λf hf=>by obtain ⟨i,hi⟩:=List.mem_iff_getElem?.1 hf;have:=hL.pos i f (by simpa using hi);omega)
    have af:(ds.mapM λf=>(do pure (f.offset,<-sizeOf f.type):Sem (Nat×Nat))).run Γ.P w=.ok (ds.map λf=>(f.offset,Γ.P.cellsOf f.type)) w:=by rw [Array.mapM_eq_mapM_toList,Sem.run_map,an];simp only [Result.andThen_ok];congr 1;grind
    simp only [Instr.build,Sem.run_bind,zeroValue,typeInfo,run_program,Result.andThen_ok,hi,Sem.run_pure,aa,run_underlying J,af,r1]
 ·simp at h
theorem awy (E:TypeId) (n:Nat) (z:PV) (zs:Array Value) (hz:zs.size=Γ.P.cellsOf E) (aa:0<Γ.P.cellsOf E) (O:Rep Γ.P D w E z zs.toList):ay1 Γ.P D w E (List.replicate n z) ((Array.range (n*Γ.P.cellsOf E)).map (zs[·%zs.size]!)).toList:=by
 have h:∀ j,j<n*Γ.P.cellsOf E->((Array.range (n*Γ.P.cellsOf E)).map (zs[·%zs.size]!)).toList[j]?=zs.toList[j%Γ.P.cellsOf E]?:=by grind [Nat.mod_lt,Array.toList_map,Array.range]
 refine ⟨by simp,λc hc=>?_,λi x hi=>?_⟩
 ·obtain ⟨j,M,rfl⟩:=List.mem_iff_getElem.1 hc;have I:j<n*Γ.P.cellsOf E:=by simpa using M
  have:=h j I;rw [As M] at this;exact O.oneCell _ (List.mem_iff_getElem?.2 ⟨_,this.symm⟩)
 ·have H:=(Bg.1 hi);obtain ⟨J,Z⟩:=H;simp at J;simp at Z;subst Z;have o:(i+1)*Γ.P.cellsOf E<=n*Γ.P.cellsOf E:=Aw _ (by omega);rw [Nat.add_mul] at o;have e:((((Array.range (n*Γ.P.cellsOf E)).map (zs[·%zs.size]!)).toList.drop (i*Γ.P.cellsOf E)).take (Γ.P.cellsOf E))=zs.toList:=by
   apply List.ext_getElem?;grind [List.getElem?_take_of_lt,Nat.mul_comm,Nat.mul_add_mod,Nat.mod_eq_of_lt,List.getElem?_eq_none]
  rw [e];exact O
theorem alm (hw:WRel Γ D ow μ st w) (T:TypeId) (n:Nat) (O:List (Nat×SV)) (vs:Array (Nat×Value)) (v:SV) (hl:O.length=vs.size) (aa:∀ (m i:Nat) (s:SV) (j:Nat) (u:Value),O[m]?=some (i,s)->vs[m]?=some (j,u)->i=j/\SRep Γ.P D w ow μ st s u) (h:acr Γ.P T n O=.val true v):
 ∃ u w',(Instr.buildSlice T n vs).run Γ.P w=.ok u w'/\OpRes Γ D ow μ st w (.ok (.value u) w') v st:=by
 unfold acr at h
 split at h
 ·rename_i E hT;cases hc:(aca Γ.P E&&isOf Γ.P E (abd Γ.P 12 E)&&!(Nat.beq (Γ.P.cellsOf E) 0)&&Nat.ble (n*Γ.P.cellsOf E) 4096&&O.all (ae2 Γ.P n E)) with
  | false=>grind
  | true=>
   rw [hc] at h;simp only [Af,Ac.val.injEq,true_and] at h;subst h;simp only [Aj,Bool.not_eq_true'] at hc;obtain ⟨⟨⟨⟨c1,c2⟩,c3⟩,c4⟩,c5⟩:=hc;have aj:0<Γ.P.cellsOf E:=by rcases Nat.eq_zero_or_pos (Γ.P.cellsOf E) with h0 | h0;all_goals simp_all
   have ag:n*Γ.P.cellsOf E<=4096:=Au c4;obtain ⟨ap,z,hi,ai,ah,af,an,ak,ao⟩:=abt (Γ:=Γ) (D:=D) (ow:=ow) (μ:=μ) (st:=st) (w:=w) c1;have I:=aba ak E c2;have ae:=awy (Γ:=Γ) (D:=D) (w:=w) E n (toPV (abd Γ.P 12 E)) z.cells af aj I;have M:aal Γ.P E=true\/Γ.P.cellsOf E=1:=by
    cases Z:aal Γ.P E with
    | true=>exact Or.inl rfl
    | false=>obtain ⟨u,hu⟩:=I.single Z;right;rw [<-af];have:=congrArg List.length hu;simpa using this
   obtain ⟨H,r1,r2,r3⟩:=ag7 (Γ:=Γ) (D:=D) (w:=w) (ow:=ow) (μ:=μ) (st:=st) E n O vs.toList _ _ (by simpa using hl) (λm i s j u h1 h2=>aa m i s j u h1 (by simpa using h2)) (λp hp=>Bs.1 c5 p hp)
    (λp hp v hv=>by
     have hf:=Bs.1 c5 p hp;simp only [ae2,Aj] at hf;have hr:=aba hv E hf.2;rcases M with Z | h1
     ·exact hr.aggLen Z
     ·cases Z:aal Γ.P E with
      | true=>exact hr.aggLen Z
      | false=>obtain ⟨u,hu⟩:=hr.single Z;rw [hu,h1];rfl) (by simp) ae
   obtain ⟨e1,e2,e3⟩:=r3;refine ⟨.slice (some ⟨w.heap.size,0,none⟩) n n,w.alloc (.cells H E),?_,?_⟩
   ·have ab:¬(n*Γ.P.cellsOf E>2^24):=by omega
    simp only [Instr.buildSlice,Sem.run_bind,run_underlying hT,Result.andThen_ok,aa5 hi ah];rw [if_neg ab];by_cases h0:n*Γ.P.cellsOf E=0
    ·rw [if_pos h0];have al:Instr.fill (λi=>some (i*Γ.P.cellsOf E,Γ.P.cellsOf E)) ((Array.range (n*Γ.P.cellsOf E)).map ((#[]:Array Value)[·%(#[]:Array Value).size]!)) vs.toList=some H:=by
      grind
     simp only [pure_bind,al];simp [newRow]
    ·rw [if_neg h0];simp only [pure_bind,Sem.run_bind,zeroValue,typeInfo,run_program,Result.andThen_ok,hi,Sem.run_pure,ai,r1];simp [newRow]
   ·have J:(adf (List.replicate n (toPV (abd Γ.P 12 E))) O).length=n:=r2;have g:=Grew.alloc w (.cells H E);refine OpRes.grew hw (D':=λb o=>D b o\/(b=w.heap.size/\o<H.toList.length)) rfl g (λb o d=>Or.inl d) (λb o d=>d.imp id (λd=>⟨by omega,by rw [d.1];simp⟩)) (λm=>?_);have ad:=SliceRep.mk (P:=Γ.P) (D:=λb o=>D b o\/(b=w.heap.size/\o<H.toList.length)) (w:=w.alloc (.cells H E)) (E:=E) (b:=w.heap.size) (off:=0) (cap:=n) (xs:=adf (List.replicate n (toPV (abd Γ.P 12 E))) O) (L:=H.toList)
     (by omega) e1 (λi x hx=>(e3 i x hx).mono m.dom m.keeps) (λj u hj=>by have am:=(Bg.1 hj).1;refine ⟨Or.inr ⟨rfl,by omega⟩,?_⟩;rw [Nat.zero_add,World.cell?_alloc_new];simpa using hj)
    rw [J] at ad;have hl:=SRep.lit (P:=Γ.P) (w:=w.alloc (.cells H E)) (ow:=ow) (μ:=μ) (st:=st) (by rw [J];exact ad);grind
 ·simp at h
theorem aqb (hw:WRel Γ D ow μ st w) (T:TypeId) (x y:SV) (xv yv:Value) (v:SV) (st':List BX) (hx:SRep Γ.P D w ow μ st x xv) (hy:SRep Γ.P D w ow μ st y yv) (h:aer Γ.P T x y st=.upd true v st'):
 ∃ u w',(Instr.makeSlice T xv yv).run Γ.P w=.ok u w'/\OpRes Γ D ow μ st w (.ok (.value u) w') v st':=by
 unfold aer at h
 split at h
 ·rename_i E m c hT;cases hc:(aca Γ.P E&&isOf Γ.P E (abd Γ.P 12 E)&&!(Nat.beq (Γ.P.cellsOf E) 0)&&Nat.ble (Γ.P.bytesOf E) 512) with
  | false=>grind
  | true=>
   rw [hc] at h;simp only [Af,Ac.upd.injEq,A5] at h;obtain ⟨hb,rfl,rfl⟩:=h;simp only [Aj,Bool.not_eq_true'] at hc;obtain ⟨⟨⟨c1,c0⟩,c2⟩,c3⟩:=hc;have af:0<Γ.P.cellsOf E:=by rcases Nat.eq_zero_or_pos (Γ.P.cellsOf E) with h0 | h0;all_goals simp_all
   have aj:Γ.P.bytesOf E<=512:=Au c3;obtain ⟨H,z,hi,ad,M,ah,al,ag,am⟩:=abt (Γ:=Γ) (D:=D) (ow:=ow) (μ:=μ) (st:=st) (w:=w) c1;have ak:H.bytes=Γ.P.bytesOf E:=by simp [Program.bytesOf,hi]
   cases hx;cases hy;obtain ⟨m,rfl⟩:∃ n:Nat,m=(n:Int):=⟨m.toNat,by omega⟩;obtain ⟨n,rfl⟩:∃ n:Nat,c=(n:Int):=⟨c.toNat,by omega⟩;have hn:n<=68719476736:=by grind [aaf]
   have aa:(H.bytes:Int)*(n:Int)<=281474976710656:=by have h1:H.bytes*n<=512*68719476736:=Nat.mul_le_mul (by grind) hn;grind
   have hr:=run_make (P:=Γ.P) w T E H z hT hi ad .i64 .i64 m n (by omega) (by omega) aa (by omega);simp only [Ai] at hr;have I:=aba (ag) E c0;refine ⟨_,_,hr,?_⟩;have Z:=awy (Γ:=Γ) (D:=D) (w:=w) E n (toPV (abd Γ.P 12 E)) z.cells ah af I;have O:m<=n:=by omega
   have J:(madeCells z.cells (n*H.size)).size=n*Γ.P.cellsOf E:=by rw [size_madeCells,M]
   have ai:(w.alloc (.cells (madeCells z.cells (n*H.size)) E)).heap[w.heap.size]?=some (.cells (madeCells z.cells (n*H.size)) E (0,0)):=aas w _;have ab:∀ (i:Nat) (x:PV),(List.replicate m (toPV (abd Γ.P 12 E)))[i]?=some x->Rep Γ.P D w E x (((madeCells z.cells (n*H.size)).toList.drop (i*Γ.P.cellsOf E)).take (Γ.P.cellsOf E)):=by
    intro i x hx;have ae:i<m:=by grind
    rw [List.getElem?_replicate,if_pos ae] at hx;have:=Z.2.2 i x (by grind);rw [M];exact this
   obtain ⟨u1,u2⟩:=hw.newOwn (.cells (madeCells z.cells (n*H.size)) E) (.arr E 0 (List.replicate m (toPV (abd Γ.P 12 E)))) (λmv=>by
    refine Or.inr ⟨madeCells z.cells (n*H.size),by grind [aai],by rw [aai,aai],λo d=>?_,?_,λi x hx=>(ab i x hx).mono mv.dom mv.keeps⟩
    ·rw [aai] at d;have:=hw.dlt _ _ d;omega
    ·rw [J];simpa using Aw _ O)
   refine ⟨_,_,_,_,_,Or.inl rfl,u1,u2,?_⟩;have hk:(st++[BX.arr E 0 (List.replicate m (toPV (abd Γ.P 12 E)))])[st.length]?=some (.arr E 0 (List.replicate m (toPV (abd Γ.P 12 E)))):=by grind
   have:=SRep.arr (P:=Γ.P) (D:=D) (w:=w.alloc (.cells (madeCells z.cells (n*H.size)) E)) (ow:=upd ow w.heap.size (some st.length)) (μ:=upd μ st.length w.heap.size) (cap:=n) hk (by simpa using O) (by unfold maxLen;omega) (by grind [aai]) (by rw [aai,aai]) J.symm;grind [aai]
 ·cases h
end
end Go.Ab
