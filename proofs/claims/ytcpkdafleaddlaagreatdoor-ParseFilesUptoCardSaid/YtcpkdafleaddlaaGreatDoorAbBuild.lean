/- Composite literals. -/
import Derived.Test.YtcpkdafleaddlaaGreatDoorAbAppend
set_option linter.unusedVariables false
set_option linter.unusedSimpArgs false
set_option linter.unnecessarySimpa false
namespace Go.Ab
open Go
theorem awp (off:Nat):∀ (xs:List Value) (s:Nat) (d:Array Value),off+s+xs.length<=d.size->
 ((xs.zipIdx s).foldl (λcs (p:Value×Nat)=>cs.setIfInBounds (off+p.2) p.1) d).toList=abj d.toList (off+s) xs:=by
 intro xs
 induction xs with
 | nil=>intro s d h;simp [abj]
 | cons x r o=>
  intro s d h
  simp only [Ao] at h
  simp only [List.zipIdx_cons,List.foldl_cons]
  rw [o (s+1) _ (by simp;omega),Array.toList_setIfInBounds]
  apply List.ext_getElem?
  intro j
  have m:d.toList.length=d.size:=by simp
  rw [agm (by simp;omega),agm (by simp;omega)]
  grind
theorem al3 (off:Nat) (v:Array Value) (d:Array Value) (h:off+v.size<=d.size):
 v.zipIdx.foldl (λcs (p:Value×Nat)=>cs.setIfInBounds (off+p.2) p.1) d=(abj d.toList off v.toList).toArray:=by
 rw [<-Array.foldl_toList]
 have:=awp off v.toList 0 d (by simpa using h)
 grind
section
variable {Γ:Ctx}{D:Dom}{ow:Own}{μ:Nat->Nat}{st:List BX}{w:World}
theorem a1v (fs:List Field) (h:∀ f,f∈fs->Γ.P.cellsOf f.type≠0):(fs.mapM λf=>(do pure (f.offset,<-sizeOf f.type):Sem (Nat×Nat))).run Γ.P w=.ok (fs.map λf=>(f.offset,Γ.P.cellsOf f.type)) w:=by
 induction fs with
 | nil=>simp
 | cons f r H=>obtain ⟨i,o,z⟩:=abe (h f (by simp));have d:=H (λg m=>h g (by simp [m]));simp only [List.mapM_cons,Sem.run_bind,abc o z,Result.andThen_ok,Sem.run_pure,d,Bk]
theorem a0s (T:TypeId) (Y:Array Field) (hT:Γ.P.underlying T=some (.struct Y)) (hL:Laid Γ.P T Y):∀ (X:List (Nat×SV)) (W:List (Nat×Value)) (fs z:List SV) (m:Array Value),
 X.length=W.length->(∀ (n i:Nat) (s:SV) (j:Nat) (v:Value),X[n]?=some (i,s)->W[n]?=some (j,v)->i=j/\SRep Γ.P D w ow μ st s v)->
 (∀ p,p∈X->am3 Γ.P Y p=true)->SRep Γ.P D w ow μ st (.agg T fs) (.agg m)->aet fs X=some z->
 ∃ o,Instr.fill (λi=>(Y.map λf=>(f.offset,Γ.P.cellsOf f.type))[i]?) m W=some o/\SRep Γ.P D w ow μ st (.agg T z) (.agg o):=by
 intro X
 induction X with
 | nil=>
  intro W fs z m hl _ _ hs U
  have:W=[]:=Az (by grind)
  subst this
  simp [aet] at U;subst U
  exact ⟨m,rfl,hs⟩
 | cons p r ih=>
  intro W fs z m hl M O hs U
  cases W with
  | nil=>simp at hl
  | cons q vr=>
   obtain ⟨i,s⟩:=p
   obtain ⟨j,v⟩:=q
   obtain ⟨af,ai⟩:=M 0 i s j v rfl rfl
   subst af
   have H:=O (i,s) (by simp)
   simp only [am3] at H
   cases hf:Y[i]? with
   | none=>grind
   | some f=>
    rw [hf] at H
    simp only at H
    obtain ⟨f1,f2,f3⟩:=af7 ai H
    unfold aet at U
    cases ag:Nat.blt i fs.length with
    | false=>grind
    | true=>
     rw [ag] at U
     simp only [Ad] at U
     generalize ad:Value.agg m=cv at hs
     cases hs with
     | @agg _ am _ cs Z ao ap aj aq=>
      rw [hT] at Z;cases Z
      have ab:m=cs.toArray:=by simpa using ad
      subst ab
      have an:=hL.inside i f hf
      have ak:v.cells.toList.length=Γ.P.cellsOf f.type:=f1
      have V:f.offset+v.cells.toList.length<=cs.length:=by omega
      have al:v.cells.size=Γ.P.cellsOf f.type:=by simpa using ak
      have ae:=al3 f.offset v.cells cs.toArray (by simp;omega)
      have aa:SRep Γ.P D w ow μ st (.agg T (fs.set i s)) (.agg (abj cs f.offset v.cells.toList).toArray):=by
       refine .agg hT (by grind [ab5]) ?_ (by simpa using aj) (λn x g hn hg=>?_)
       ·grind [abj,List.mem_of_mem_take,List.mem_of_mem_drop]
       ·by_cases ah:n=i
        ·grind [List.getElem?_set_self,Nat.le_of_ble_eq_true,ao1]
        ·rw [Ap (by omega)] at hn;rw [aef V]
         ·grind
         ·rcases Nat.lt_or_gt_of_ne ah with h' | h'
          ·have:=hL.apart n i g f hg hf h';omega
          ·have:=hL.apart i n f g hf hg h';omega
      obtain ⟨o,r1,r2⟩:=ih vr (fs.set i s) z _ (by simpa using hl) (λn a b c d h1 h2=>M (n+1) a b c d (by simpa using h1) (by simpa using h2)) (λp hp=>O p (by simp [hp])) aa U
      refine ⟨o,?_,r2⟩
      unfold Instr.fill
      grind
def a2l (P:Program) (D:Dom) (w:World) (E:TypeId) (xs:List PV) (L:List Value):Prop:=
 L.length=xs.length*P.cellsOf E/\(∀ c,c∈L->c.oneCell'=true)/\∀ (i:Nat) (x:PV),xs[i]?=some x->Rep P D w E x ((L.drop (i*P.cellsOf E)).take (P.cellsOf E))
theorem ahz (E:TypeId) (n:Nat):∀ (U:List (Nat×SV)) (Y:List (Nat×Value)) (xs:List PV) (o:Array Value),
 U.length=Y.length->(∀ (m i:Nat) (s:SV) (j:Nat) (v:Value),U[m]?=some (i,s)->Y[m]?=some (j,v)->i=j/\SRep Γ.P D w ow μ st s v)->
 (∀ p,p∈U->afg Γ.P n E p=true)->(∀ p,p∈U->∀ v,SRep Γ.P D w ow μ st p.2 v->v.cells.toList.length=Γ.P.cellsOf E)->xs.length=n->a2l Γ.P D w E xs o.toList->
 ∃ z,Instr.fill (λi=>some (i*Γ.P.cellsOf E,Γ.P.cellsOf E)) o Y=some z/\(adq xs U).length=n/\a2l Γ.P D w E (adq xs U) z.toList:=by
 intro U
 induction U with
 | nil=>
  intro Y xs o hl _ _ _ hn hs
  have:Y=[]:=Az (by grind)
  subst this
  exact ⟨o,rfl,hn,hs⟩
 | cons p r ih=>
  intro Y xs o hl H M O hn hs
  cases Y with
  | nil=>simp at hl
  | cons q vr=>
   obtain ⟨i,s⟩:=p
   obtain ⟨j,v⟩:=q
   obtain ⟨ag,ad⟩:=H 0 i s j v rfl rfl
   subst ag
   have W:=M (i,s) (by simp)
   simp only [afg,Ai] at W
   have aj:i<n:=As W.1
   have ab:=abk ad E W.2
   have ae:v.cells.toList.length=Γ.P.cellsOf E:=O (i,s) (by simp) v ad
   have ai:v.cells.size=Γ.P.cellsOf E:=by simpa using ae
   obtain ⟨e1,e2,e3⟩:=hs
   have Z:(i+1)*Γ.P.cellsOf E<=n*Γ.P.cellsOf E:=Au _ (by omega)
   rw [Nat.add_mul] at Z
   have X:i*Γ.P.cellsOf E+v.cells.toList.length<=o.toList.length:=by grind
   have af:=al3 (i*Γ.P.cellsOf E) v.cells o (by grind)
   have aa:a2l Γ.P D w E (xs.set i (toPV s)) (abj o.toList (i*Γ.P.cellsOf E) v.cells.toList):=by
    refine ⟨by grind [ab5],?_,λm x hm=>?_⟩
    ·intro c V;unfold abj at V;simp only [Bm] at V;rcases V with (V | V) | V
     ·grind
     ·exact ab.oneCell c V
     grind
    ·by_cases ah:m=i
     ·grind [List.getElem?_set_self,ao1]
     ·rw [Ap (by omega)] at hm;rw [aef X]
      ·exact e3 m x hm
      ·rw [ae];rcases Nat.lt_or_gt_of_ne ah with h' | h'
       ·have:(m+1)*Γ.P.cellsOf E<=i*Γ.P.cellsOf E:=Au _ (by omega);grind
       ·have:(i+1)*Γ.P.cellsOf E<=m*Γ.P.cellsOf E:=Au _ (by omega);grind
   obtain ⟨z,r1,r2,r3⟩:=ih vr (xs.set i (toPV s)) (abj o.toList (i*Γ.P.cellsOf E) v.cells.toList).toArray (by simpa using hl) (λm a b c d h1 h2=>H (m+1) a b c d (by simpa using h1) (by simpa using h2)) (λp hp=>M p (by simp [hp])) (λp hp=>O p (by simp [hp])) (by simpa using hn) (by simpa using aa)
   refine ⟨z,?_,r2,r3⟩
   unfold Instr.fill
   grind
theorem av9 (T:TypeId) (H:List (Nat×SV)) (vs:Array (Nat×Value)) (v:SV) (hl:H.length=vs.size) (O:∀ (n i:Nat) (s:SV) (j:Nat) (u:Value),H[n]?=some (i,s)->vs[n]?=some (j,u)->i=j/\SRep Γ.P D w ow μ st s u) (h:ajm Γ.P T H=.val true v):
 ∃ u,(Instr.build T vs).run Γ.P w=.ok u w/\SRep Γ.P D w ow μ st v u:=by
 unfold ajm at h
 split at h
 ·rename_i n E Z zs M hz;cases W:(adc Γ.P T&&abf Γ.P E&&Nat.beq (Γ.P.cellsOf T) (n*Γ.P.cellsOf E)&&H.all (afg Γ.P n E)) with
  | false=>grind
  | true=>
   rw [W] at h;simp only [Ad,Ac.val.injEq,true_and] at h;subst h;simp only [Ai,abf,Bool.not_eq_true',Bd] at W;obtain ⟨⟨⟨c1,⟨c2,av⟩,af⟩,c3⟩,c4⟩:=W;have c3:=Af c3;have aj:Γ.P.cellsOf E≠0:=λh0=>by grind
   obtain ⟨ie,ag,an⟩:=abe aj;obtain ⟨au,z,hi,X,ah,aq,ao,o,ap⟩:=aby (Γ:=Γ) (D:=D) (ow:=ow) (μ:=μ) (st:=st) (w:=w) c1;have V:Z=T:=by grind [abp]
   subst V;rw [hz] at o;have ha:aak Γ.P Z=true:=by simp [aak,M]
   have ab:a2l Γ.P D w E zs z.cells.toList/\zs.length=n:=by
    generalize ar:z=zz at o;cases o with
    | data _ hr=>
     cases hr with
     | agg U=>grind
     | arr U ai ak ae am=>rw [M] at U;cases U;simp only [ar,Value.cells];exact ⟨⟨by rw [ai,c3,ae],ak,am⟩,ae⟩
   obtain ⟨d,r1,r2,r3⟩:=ahz (Γ:=Γ) (D:=D) (w:=w) (ow:=ow) (μ:=μ) (st:=st) E n H vs.toList zs z.cells (by simpa using hl) (λm i s j u h1 h2=>O m i s j u h1 (by simpa using h2)) (λp hp=>Bi.1 c4 p hp)
    (λp hp v hv=>by
     have hf:=Bi.1 c4 p hp;simp only [afg,Ai] at hf;have hr:=abk hv E hf.2;cases aa:aak Γ.P E with
     | true=>exact hr.aggLen aa
     | false=>
      rcases af with h' | h'
      ·grind
      ·obtain ⟨u,hu⟩:=hr.single aa;grind [Nat.eq_of_beq_eq_true]) ab.2 ab.1
   obtain ⟨e1,e2,e3⟩:=r3;refine ⟨.agg d,by simp only [Instr.build,Sem.run_bind,zeroValue,typeInfo,run_program,Result.andThen_ok,hi,Sem.run_pure,X,run_underlying M,abc ag an,r1],?_⟩;have:=SRep.data (P:=Γ.P) (D:=D) (w:=w) (ow:=ow) (μ:=μ) (st:=st) (T:=Z) (v:=.agg (adq zs H)) (cs:=d.toList) ha (.arr M (by rw [e1,r2,c3]) e2 r2 e3);simpa using this
 ·rename_i ds Z zs M hz;cases W:(adc Γ.P T&&ac6 Γ.P T&&H.all (am3 Γ.P ds)) with
  | false=>grind
  | true=>
   rw [W] at h;simp only [Ad] at h;simp only [Ai] at W;obtain ⟨⟨c1,c2⟩,c3⟩:=W;have hL:=acf c2 M;cases hb:aet zs H with
   | none=>grind
   | some fs=>
    rw [hb] at h;simp only [Ac.val.injEq,true_and] at h;subst h;obtain ⟨au,z,hi,X,ah,aq,ao,o,ap⟩:=aby (Γ:=Γ) (D:=D) (ow:=ow) (μ:=μ) (st:=st) (w:=w) c1;have V:Z=T:=by grind [abp]
    subst V;rw [hz] at o;have Y:z=.agg z.cells:=by grind [aak,pack,Value.cells]
    rw [Y] at o;obtain ⟨d,r1,r2⟩:=a0s Z ds M hL H vs.toList zs fs z.cells (by simpa using hl) (λn i s j u h1 h2=>O n i s j u h1 (by simpa using h2)) (λp hp=>by grind) o hb
    refine ⟨.agg d,?_,r2⟩;have al:=a1v (Γ:=Γ) (w:=w) ds.toList (λf hf=>by obtain ⟨i,hi⟩:=List.mem_iff_getElem?.1 hf;have:=hL.pos i f (by simpa using hi);omega)
    have ad:(ds.mapM λf=>(do pure (f.offset,<-sizeOf f.type):Sem (Nat×Nat))).run Γ.P w=.ok (ds.map λf=>(f.offset,Γ.P.cellsOf f.type)) w:=by rw [Array.mapM_eq_mapM_toList,Sem.run_map,al];simp only [Result.andThen_ok];congr 1;grind
    simp only [Instr.build,Sem.run_bind,zeroValue,typeInfo,run_program,Result.andThen_ok,hi,Sem.run_pure,X,run_underlying M,ad,r1]
 ·simp at h
theorem azy (E:TypeId) (n:Nat) (z:PV) (zs:Array Value) (Z:zs.size=Γ.P.cellsOf E) (Y:0<Γ.P.cellsOf E) (U:Rep Γ.P D w E z zs.toList):a2l Γ.P D w E (List.replicate n z) ((Array.range (n*Γ.P.cellsOf E)).map (zs[·%zs.size]!)).toList:=by
 have d:∀ j,j<n*Γ.P.cellsOf E->((Array.range (n*Γ.P.cellsOf E)).map (zs[·%zs.size]!)).toList[j]?=zs.toList[j%Γ.P.cellsOf E]?:=by grind [Nat.mod_lt,Array.toList_map,Array.range]
 refine ⟨by simp,λc W=>?_,λi x X=>?_⟩
 ·obtain ⟨j,O,rfl⟩:=List.mem_iff_getElem.1 W;have H:j<n*Γ.P.cellsOf E:=by simpa using O
  have:=d j H;rw [An O] at this;exact U.oneCell _ (List.mem_iff_getElem?.2 ⟨_,this.symm⟩)
 ·have o:=(A4.1 X);obtain ⟨M,V⟩:=o;simp at M;simp at V;subst V;have m:(i+1)*Γ.P.cellsOf E<=n*Γ.P.cellsOf E:=Au _ (by omega);rw [Nat.add_mul] at m;have e:((((Array.range (n*Γ.P.cellsOf E)).map (zs[·%zs.size]!)).toList.drop (i*Γ.P.cellsOf E)).take (Γ.P.cellsOf E))=zs.toList:=by
   apply List.ext_getElem?;grind [List.getElem?_take_of_lt,Nat.mul_comm,Nat.mul_add_mod,Nat.mod_eq_of_lt,List.getElem?_eq_none]
  rw [e];exact U
theorem amn (hw:WRel Γ D ow μ st w) (T:TypeId) (n:Nat) (V:List (Nat×SV)) (vs:Array (Nat×Value)) (v:SV) (hl:V.length=vs.size) (X:∀ (m i:Nat) (s:SV) (j:Nat) (u:Value),V[m]?=some (i,s)->vs[m]?=some (j,u)->i=j/\SRep Γ.P D w ow μ st s u) (h:acs Γ.P T n V=.val true v):
 ∃ u w',(Instr.buildSlice T n vs).run Γ.P w=.ok u w'/\OpRes Γ D ow μ st w (.ok (.value u) w') v st:=by
 unfold acs at h
 split at h
 ·rename_i E hT;cases hc:(adc Γ.P E&&isOf Γ.P E (abp Γ.P 12 E)&&!(Nat.beq (Γ.P.cellsOf E) 0)&&Nat.ble (n*Γ.P.cellsOf E) 4096&&V.all (afg Γ.P n E)) with
  | false=>grind
  | true=>
   rw [hc] at h;simp only [Ad,Ac.val.injEq,true_and] at h;subst h;simp only [Ai,Bool.not_eq_true'] at hc;obtain ⟨⟨⟨⟨c1,c2⟩,c3⟩,c4⟩,c5⟩:=hc;have ag:0<Γ.P.cellsOf E:=by rcases Nat.eq_zero_or_pos (Γ.P.cellsOf E) with h0 | h0;all_goals simp_all
   have ad:n*Γ.P.cellsOf E<=4096:=As c4;obtain ⟨am,z,hi,af,ae,ab,ak,ah,al⟩:=aby (Γ:=Γ) (D:=D) (ow:=ow) (μ:=μ) (st:=st) (w:=w) c1;have M:=abk ah E c2;have aa:=azy (Γ:=Γ) (D:=D) (w:=w) E n (toPV (abp Γ.P 12 E)) z.cells ab ag M;have U:aak Γ.P E=true\/Γ.P.cellsOf E=1:=by
    cases W:aak Γ.P E with
    | true=>exact Or.inl rfl
    | false=>obtain ⟨u,hu⟩:=M.single W;right;rw [<-ab];have:=congrArg List.length hu;simpa using this
   obtain ⟨H,r1,r2,r3⟩:=ahz (Γ:=Γ) (D:=D) (w:=w) (ow:=ow) (μ:=μ) (st:=st) E n V vs.toList _ _ (by simpa using hl) (λm i s j u h1 h2=>X m i s j u h1 (by simpa using h2)) (λp hp=>Bi.1 c5 p hp)
    (λp hp v hv=>by
     have hf:=Bi.1 c5 p hp;simp only [afg,Ai] at hf;have hr:=abk hv E hf.2;rcases U with W | h1
     ·exact hr.aggLen W
     ·cases W:aak Γ.P E with
      | true=>exact hr.aggLen W
      | false=>obtain ⟨u,hu⟩:=hr.single W;rw [hu,h1];rfl) (by simp) aa
   obtain ⟨e1,e2,e3⟩:=r3;refine ⟨.slice (some ⟨w.heap.size,0,none⟩) n n,w.alloc (.cells H E),?_,?_⟩
   ·have Y:¬(n*Γ.P.cellsOf E>2^24):=by omega
    simp only [Instr.buildSlice,Sem.run_bind,run_underlying hT,Result.andThen_ok,abc hi ae];rw [if_neg Y];by_cases h0:n*Γ.P.cellsOf E=0
    ·rw [if_pos h0];have ai:Instr.fill (λi=>some (i*Γ.P.cellsOf E,Γ.P.cellsOf E)) ((Array.range (n*Γ.P.cellsOf E)).map ((#[]:Array Value)[·%(#[]:Array Value).size]!)) vs.toList=some H:=by
      grind
     simp only [pure_bind,ai];simp [newRow]
    ·rw [if_neg h0];simp only [pure_bind,Sem.run_bind,zeroValue,typeInfo,run_program,Result.andThen_ok,hi,Sem.run_pure,af,r1];simp [newRow]
   ·have O:(adq (List.replicate n (toPV (abp Γ.P 12 E))) V).length=n:=r2;have g:=Grew.alloc w (.cells H E);refine OpRes.grew hw (D':=λb o=>D b o\/(b=w.heap.size/\o<H.toList.length)) rfl g (λb o d=>Or.inl d) (λb o d=>d.imp id (λd=>⟨by omega,by rw [d.1];simp⟩)) (λm=>?_);have Z:=SliceRep.mk (P:=Γ.P) (D:=λb o=>D b o\/(b=w.heap.size/\o<H.toList.length)) (w:=w.alloc (.cells H E)) (E:=E) (b:=w.heap.size) (off:=0) (cap:=n) (xs:=adq (List.replicate n (toPV (abp Γ.P 12 E))) V) (L:=H.toList)
     (by omega) e1 (λi x hx=>(e3 i x hx).mono m.dom m.keeps) (λj u hj=>by have aj:=(A4.1 hj).1;refine ⟨Or.inr ⟨rfl,by omega⟩,?_⟩;rw [Nat.zero_add,World.cell?_alloc_new];simpa using hj)
    rw [O] at Z;have hl:=SRep.lit (P:=Γ.P) (w:=w.alloc (.cells H E)) (ow:=ow) (μ:=μ) (st:=st) (by rw [O];exact Z);grind
 ·simp at h
theorem ar5 (hw:WRel Γ D ow μ st w) (T:TypeId) (x y:SV) (xv yv:Value) (v:SV) (st':List BX) (X:SRep Γ.P D w ow μ st x xv) (hy:SRep Γ.P D w ow μ st y yv) (h:ae4 Γ.P T x y st=.upd true v st'):
 ∃ u w',(Instr.makeSlice T xv yv).run Γ.P w=.ok u w'/\OpRes Γ D ow μ st w (.ok (.value u) w') v st':=by
 unfold ae4 at h
 split at h
 ·rename_i E m c hT;cases Z:(adc Γ.P E&&isOf Γ.P E (abp Γ.P 12 E)&&!(Nat.beq (Γ.P.cellsOf E) 0)&&Nat.ble (Γ.P.bytesOf E) 512) with
  | false=>grind
  | true=>
   rw [Z] at h;simp only [Ad,Ac.upd.injEq,Ay] at h;obtain ⟨hb,rfl,rfl⟩:=h;simp only [Ai,Bool.not_eq_true'] at Z;obtain ⟨⟨⟨c1,c0⟩,c2⟩,c3⟩:=Z;have ae:0<Γ.P.cellsOf E:=by rcases Nat.eq_zero_or_pos (Γ.P.cellsOf E) with h0 | h0;all_goals simp_all
   have ai:Γ.P.bytesOf E<=512:=As c3;obtain ⟨H,z,hi,ab,U,ag,ak,af,al⟩:=aby (Γ:=Γ) (D:=D) (ow:=ow) (μ:=μ) (st:=st) (w:=w) c1;have aj:H.bytes=Γ.P.bytesOf E:=by simp [Program.bytesOf,hi]
   cases X;cases hy;obtain ⟨m,rfl⟩:∃ n:Nat,m=(n:Int):=⟨m.toNat,by omega⟩;obtain ⟨n,rfl⟩:∃ n:Nat,c=(n:Int):=⟨c.toNat,by omega⟩;have hn:n<=68719476736:=by grind [aaf]
   have Y:(H.bytes:Int)*(n:Int)<=281474976710656:=by have h1:H.bytes*n<=512*68719476736:=Nat.mul_le_mul (by grind) hn;grind
   have hr:=run_make (P:=Γ.P) w T E H z hT hi ab .i64 .i64 m n (by omega) (by omega) Y (by omega);simp only [Ag] at hr;have M:=abk (af) E c0;refine ⟨_,_,hr,?_⟩;have W:=azy (Γ:=Γ) (D:=D) (w:=w) E n (toPV (abp Γ.P 12 E)) z.cells ag ae M;have V:m<=n:=by omega
   have O:(madeCells z.cells (n*H.size)).size=n*Γ.P.cellsOf E:=by rw [size_madeCells,U]
   have ah:(w.alloc (.cells (madeCells z.cells (n*H.size)) E)).heap[w.heap.size]?=some (.cells (madeCells z.cells (n*H.size)) E (0,0)):=aax w _;have aa:∀ (i:Nat) (x:PV),(List.replicate m (toPV (abp Γ.P 12 E)))[i]?=some x->Rep Γ.P D w E x (((madeCells z.cells (n*H.size)).toList.drop (i*Γ.P.cellsOf E)).take (Γ.P.cellsOf E)):=by
    intro i x X;have ad:i<m:=by grind
    rw [List.getElem?_replicate,if_pos ad] at X;have:=W.2.2 i x (by grind);rw [U];exact this
   obtain ⟨u1,u2⟩:=hw.newOwn (.cells (madeCells z.cells (n*H.size)) E) (.arr E 0 (List.replicate m (toPV (abp Γ.P 12 E)))) (λmv=>by
    refine Or.inr ⟨madeCells z.cells (n*H.size),by grind [aah],by rw [aah,aah],λo d=>?_,?_,λi x X=>(aa i x X).mono mv.dom mv.keeps⟩
    ·rw [aah] at d;have:=hw.dlt _ _ d;omega
    ·rw [O];simpa using Au _ V)
   refine ⟨_,_,_,_,_,Or.inl rfl,u1,u2,?_⟩;have hk:(st++[BX.arr E 0 (List.replicate m (toPV (abp Γ.P 12 E)))])[st.length]?=some (.arr E 0 (List.replicate m (toPV (abp Γ.P 12 E)))):=by grind
   have:=SRep.arr (P:=Γ.P) (D:=D) (w:=w.alloc (.cells (madeCells z.cells (n*H.size)) E)) (ow:=upd ow w.heap.size (some st.length)) (μ:=upd μ st.length w.heap.size) (cap:=n) hk (by simpa using V) (by unfold maxLen;omega) (by grind [aah]) (by rw [aah,aah]) O.symm;grind [aah]
 ·cases h
end
end Go.Ab
