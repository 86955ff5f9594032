/- Composite literals. -/
import Derived.Test.YtodichgnoiaanaaGreatDoorAbAppend
set_option linter.unusedVariables false
set_option linter.unusedSimpArgs false
set_option linter.unnecessarySimpa false
namespace Go.Ab
open Go
theorem awg (off:Nat):∀ (xs:List Value) (s:Nat) (o:Array Value),off+s+xs.length<=o.size->
 ((xs.zipIdx s).foldl (λcs (p:Value×Nat)=>cs.setIfInBounds (off+p.2) p.1) o).toList=aa7 o.toList (off+s) xs:=by
 intro xs
 induction xs with
 | nil=>intro s o h;simp [aa7]
 | cons x r H=>
  intro s o h
  simp only [Ax] at h
  simp only [List.zipIdx_cons,List.foldl_cons]
  rw [H (s+1) _ (by simp;omega),Array.toList_setIfInBounds]
  apply List.ext_getElem?
  intro j
  have z:o.toList.length=o.size:=by simp
  rw [aey (by simp;omega),aey (by simp;omega)]
  grind
theorem ahu (off:Nat) (v:Array Value) (o:Array Value) (h:off+v.size<=o.size):
 v.zipIdx.foldl (λcs (p:Value×Nat)=>cs.setIfInBounds (off+p.2) p.1) o=(aa7 o.toList off v.toList).toArray:=by
 rw [<-Array.foldl_toList]
 have:=awg off v.toList 0 o (by simpa using h)
 grind
section
variable {Γ:Ctx}{D:Dom}{ow:Own}{μ:Nat->Nat}{st:List BX}{w:World}
theorem a02 (o:List Field) (h:∀ f,f∈o->Γ.P.cellsOf f.type≠0):(o.mapM λf=>(do pure (f.offset,<-sizeOf f.type):Sem (Nat×Nat))).run Γ.P w=.ok (o.map λf=>(f.offset,Γ.P.cellsOf f.type)) w:=by
 induction o with
 | nil=>simp
 | cons f r M=>obtain ⟨i,I,J⟩:=aav (h f (by simp));have z:=M (λg H=>h g (by simp [H]));simp only [List.mapM_cons,Sem.run_bind,aau I J,Result.andThen_ok,Sem.run_pure,z,List.map_cons]
theorem az3 (T:TypeId) (ds:Array Field) (hT:Γ.P.underlying T=some (.struct ds)) (hL:Laid Γ.P T ds):∀ (ps:List (Nat×SV)) (vs:List (Nat×Value)) (M z:List SV) (h:Array Value),
 ps.length=vs.length->(∀ (n i:Nat) (s:SV) (j:Nat) (v:Value),ps[n]?=some (i,s)->vs[n]?=some (j,v)->i=j/\SRep Γ.P D w ow μ st s v)->
 (∀ p,p∈ps->am6 Γ.P ds p=true)->SRep Γ.P D w ow μ st (.agg T M) (.agg h)->aem M ps=some z->
 ∃ o,Instr.fill (λi=>(ds.map λf=>(f.offset,Γ.P.cellsOf f.type))[i]?) h vs=some o/\SRep Γ.P D w ow μ st (.agg T z) (.agg o):=by
 intro ps
 induction ps with
 | nil=>
  intro vs M z h hl _ _ hs O
  have:vs=[]:=Ba (by grind)
  subst this
  simp [aem] at O;subst O
  exact ⟨h,rfl,hs⟩
 | cons p r ih=>
  intro vs M z h hl I J hs O
  cases vs with
  | nil=>simp at hl
  | cons q vr=>
   obtain ⟨i,s⟩:=p
   obtain ⟨j,v⟩:=q
   obtain ⟨ag,aj⟩:=I 0 i s j v rfl rfl
   subst ag
   have H:=J (i,s) (by simp)
   simp only [am6] at H
   cases hf:ds[i]? with
   | none=>grind
   | some f=>
    rw [hf] at H
    simp only at H
    obtain ⟨f1,f2,f3⟩:=aep aj H
    unfold aem at O
    cases ah:Nat.blt i M.length with
    | false=>grind
    | true=>
     rw [ah] at O
     simp only [Af] at O
     generalize ae:Value.agg h=cv at hs
     cases hs with
     | @agg _ an _ cs aa ap aq ak ar=>
      rw [abd hT] at aa;cases aa
      have ad:h=cs.toArray:=by simpa using ae
      subst ad
      have ao:=hL.inside i f hf
      have al:v.cells.toList.length=Γ.P.cellsOf f.type:=f1
      have Z:f.offset+v.cells.toList.length<=cs.length:=by omega
      have am:v.cells.size=Γ.P.cellsOf f.type:=by simpa using al
      have af:=ahu f.offset v.cells cs.toArray (by simp;omega)
      have ab:SRep Γ.P D w ow μ st (.agg T (M.set i s)) (.agg (aa7 cs f.offset v.cells.toList).toArray):=by
       refine .agg (abd hT) (by grind [abq]) ?_ (by simpa using ak) (λn x g hn hg=>?_)
       ·grind [aa7,List.mem_of_mem_take,List.mem_of_mem_drop]
       ·by_cases ai:n=i
        ·grind [List.getElem?_set_self,Nat.le_of_ble_eq_true,ao7]
        ·rw [Ao (by omega)] at hn;rw [adq Z]
         ·grind
         ·rcases Nat.lt_or_gt_of_ne ai with h' | h'
          ·have:=hL.apart n i g f hg hf h';omega
          ·have:=hL.apart i n f g hf hg h';omega
      obtain ⟨o,r1,r2⟩:=ih vr (M.set i s) z _ (by simpa using hl) (λn a b c d h1 h2=>I (n+1) a b c d (by simpa using h1) (by simpa using h2)) (λp hp=>J p (by simp [hp])) ab O
      refine ⟨o,?_,r2⟩
      unfold Instr.fill
      grind
def a1k (P:Program) (D:Dom) (w:World) (E:TypeId) (xs:List PV) (L:List Value):Prop:=
 L.length=xs.length*P.cellsOf E/\(∀ c,c∈L->c.oneCell'=true)/\∀ (i:Nat) (x:PV),xs[i]?=some x->Rep P D w E x ((L.drop (i*P.cellsOf E)).take (P.cellsOf E))
theorem aht (E:TypeId) (n:Nat):∀ (J:List (Nat×SV)) (vs:List (Nat×Value)) (xs:List PV) (h:Array Value),
 J.length=vs.length->(∀ (m i:Nat) (s:SV) (j:Nat) (v:Value),J[m]?=some (i,s)->vs[m]?=some (j,v)->i=j/\SRep Γ.P D w ow μ st s v)->
 (∀ p,p∈J->afi Γ.P n E p=true)->(∀ p,p∈J->∀ v,SRep Γ.P D w ow μ st p.2 v->v.cells.toList.length=Γ.P.cellsOf E)->xs.length=n->a1k Γ.P D w E xs h.toList->
 ∃ o,Instr.fill (λi=>some (i*Γ.P.cellsOf E,Γ.P.cellsOf E)) h vs=some o/\(ado xs J).length=n/\a1k Γ.P D w E (ado xs J) o.toList:=by
 intro J
 induction J with
 | nil=>
  intro vs xs h hl _ _ _ hn hs
  have:vs=[]:=Ba (by grind)
  subst this
  exact ⟨h,rfl,hn,hs⟩
 | cons p r ih=>
  intro vs xs h hl z H I hn hs
  cases vs with
  | nil=>simp at hl
  | cons q vr=>
   obtain ⟨i,s⟩:=p
   obtain ⟨j,v⟩:=q
   obtain ⟨ah,ae⟩:=z 0 i s j v rfl rfl
   subst ah
   have O:=H (i,s) (by simp)
   simp only [afi,Aj] at O
   have ak:i<n:=Aq O.1
   have ad:=aa2 ae E O.2
   have af:v.cells.toList.length=Γ.P.cellsOf E:=I (i,s) (by simp) v ae
   have aj:v.cells.size=Γ.P.cellsOf E:=by simpa using af
   obtain ⟨e1,e2,e3⟩:=hs
   have aa:(i+1)*Γ.P.cellsOf E<=n*Γ.P.cellsOf E:=Au _ (by omega)
   rw [Nat.add_mul] at aa
   have Z:i*Γ.P.cellsOf E+v.cells.toList.length<=h.toList.length:=by grind
   have ag:=ahu (i*Γ.P.cellsOf E) v.cells h (by grind)
   have ab:a1k Γ.P D w E (xs.set i (toPV s)) (aa7 h.toList (i*Γ.P.cellsOf E) v.cells.toList):=by
    refine ⟨by grind [abq],?_,λm x hm=>?_⟩
    ·intro c M;unfold aa7 at M;simp only [Bm] at M;rcases M with (M | M) | M
     ·grind
     ·exact ad.oneCell c M
     grind
    ·by_cases ai:m=i
     ·grind [List.getElem?_set_self,ao7]
     ·rw [Ao (by omega)] at hm;rw [adq Z]
      ·exact e3 m x hm
      ·rw [af];rcases Nat.lt_or_gt_of_ne ai with h' | h'
       ·have:(m+1)*Γ.P.cellsOf E<=i*Γ.P.cellsOf E:=Au _ (by omega);grind
       ·have:(i+1)*Γ.P.cellsOf E<=m*Γ.P.cellsOf E:=Au _ (by omega);grind
   obtain ⟨o,r1,r2,r3⟩:=ih vr (xs.set i (toPV s)) (aa7 h.toList (i*Γ.P.cellsOf E) v.cells.toList).toArray (by simpa using hl) (λm a b c d h1 h2=>z (m+1) a b c d (by simpa using h1) (by simpa using h2)) (λp hp=>H p (by simp [hp])) (λp hp=>I p (by simp [hp])) (by simpa using hn) (by simpa using ab)
   refine ⟨o,?_,r2,r3⟩
   unfold Instr.fill
   grind
theorem asw {P:Program}{n:Nat}{T o:TypeId}{z:Array Field}{zs:List SV} (H:P.underlying T=some (.struct z)) (h:aa1 P (n+1) T=.agg o zs):o=T:=by grind [aa1]
theorem a1h {P:Program}{n k:Nat}{T o E:TypeId}{z:PV} (H:P.underlying T=some (.array k E)) (h:aa1 P (n+1) T=.data o z):o=T:=by grind [aa1,arrF]
theorem av3 (T:TypeId) (J:List (Nat×SV)) (vs:Array (Nat×Value)) (v:SV) (hl:J.length=vs.size) (M:∀ (n i:Nat) (s:SV) (j:Nat) (u:Value),J[n]?=some (i,s)->vs[n]?=some (j,u)->i=j/\SRep Γ.P D w ow μ st s u) (h:aje Γ.P T J=.val true v):
 ∃ u,(Instr.build T vs).run Γ.P w=.ok u w/\SRep Γ.P D w ow μ st v u:=by
 unfold aje at h
 split at h
 ·rename_i n E T' zs I hz;cases hc:(ab3 Γ.P T&&aa0 Γ.P E&&Nat.beq (Γ.P.cellsOf T) (n*Γ.P.cellsOf E)&&J.all (afi Γ.P n E)) with
  | false=>grind
  | true=>
   rw [hc] at h;simp only [Af,Ac.val.injEq,true_and] at h;subst h;simp only [Aj,aa0,Bool.not_eq_true',Bc] at hc;obtain ⟨⟨⟨c1,⟨c2,ax⟩,ah⟩,c3⟩,c4⟩:=hc;have c3:=Ae c3;have al:Γ.P.cellsOf E≠0:=λh0=>by grind
   obtain ⟨ie,ai,ap⟩:=aav al;obtain ⟨aw,z,hi,aa,aj,au,aq,H,ar⟩:=abl (Γ:=Γ) (D:=D) (ow:=ow) (μ:=μ) (st:=st) (w:=w) c1;have Z:T'=T:=a1h I hz;subst Z;rw [hz] at H;have ha:aaj Γ.P T'=true:=by simp [aaj,I]
   have ae:a1k Γ.P D w E zs z.cells.toList/\zs.length=n:=by
    generalize av:z=zz at H;cases H with
    | data _ hr=>
     cases hr with
     | agg O=>grind
     | arr O ak am ag ao=>rw [I] at O;cases O;simp only [av,Value.cells];exact ⟨⟨by rw [ak,c3,ag],am,ao⟩,ag⟩
   obtain ⟨o,r1,r2,r3⟩:=aht (Γ:=Γ) (D:=D) (w:=w) (ow:=ow) (μ:=μ) (st:=st) E n J vs.toList zs z.cells (by simpa using hl) (λm i s j u h1 h2=>M m i s j u h1 (by simpa using h2)) (λp hp=>Bj.1 c4 p hp)
    (λp hp v hv=>by
     have hf:=Bj.1 c4 p hp;simp only [afi,Aj] at hf;have hr:=aa2 hv E hf.2;cases ad:aaj Γ.P E with
     | true=>exact hr.aggLen ad
     | false=>
      rcases ah with h' | h'
      ·grind
      ·obtain ⟨u,hu⟩:=hr.single ad;grind [Nat.eq_of_beq_eq_true]) ae.2 ae.1
   obtain ⟨e1,e2,e3⟩:=r3;refine ⟨.agg o,by simp only [Instr.build,Sem.run_bind,zeroValue,typeInfo,run_program,Result.andThen_ok,hi,Sem.run_pure,aa,run_underlying I,aau ai ap,r1],?_⟩;have:=SRep.data (P:=Γ.P) (D:=D) (w:=w) (ow:=ow) (μ:=μ) (st:=st) (T:=T') (v:=.agg (ado zs J)) (cs:=o.toList) ha (.arr I (by rw [e1,r2,c3]) e2 r2 e3);simpa using this
 ·rename_i ds T' zs I hz;cases hc:(ab3 Γ.P T&&ace Γ.P T&&J.all (am6 Γ.P ds)) with
  | false=>grind
  | true=>
   rw [hc] at h;simp only [Af] at h;simp only [Aj] at hc;obtain ⟨⟨c1,c2⟩,c3⟩:=hc;have hL:=acf c2 (abd I);cases hb:aem zs J with
   | none=>grind
   | some fs=>
    rw [hb] at h;simp only [Ac.val.injEq,true_and] at h;subst h;obtain ⟨aw,z,hi,aa,aj,au,aq,H,ar⟩:=abl (Γ:=Γ) (D:=D) (ow:=ow) (μ:=μ) (st:=st) (w:=w) c1;have Z:T'=T:=asw I hz;subst Z;rw [hz] at H;have ab:z=.agg z.cells:=by grind [aaj,pack,Value.cells]
    rw [ab] at H;obtain ⟨o,r1,r2⟩:=az3 T' ds I hL J vs.toList zs fs z.cells (by simpa using hl) (λn i s j u h1 h2=>M n i s j u h1 (by simpa using h2)) (λp hp=>by grind) H hb
    refine ⟨.agg o,?_,r2⟩;have an:=a02 (Γ:=Γ) (w:=w) ds.toList (λf hf=>by obtain ⟨i,hi⟩:=List.mem_iff_getElem?.1 hf;have:=hL.pos i f (by simpa using hi);omega)
    have af:(ds.mapM λf=>(do pure (f.offset,<-sizeOf f.type):Sem (Nat×Nat))).run Γ.P w=.ok (ds.map λf=>(f.offset,Γ.P.cellsOf f.type)) w:=by rw [Array.mapM_eq_mapM_toList,Sem.run_map,an];simp only [Result.andThen_ok];congr 1;grind
    simp only [Instr.build,Sem.run_bind,zeroValue,typeInfo,run_program,Result.andThen_ok,hi,Sem.run_pure,aa,run_underlying I,af,r1]
 ·simp at h
theorem asx (E:TypeId) (n:Nat) (z:PV) (zs:Array Value) (hz:zs.size=Γ.P.cellsOf E) (aa:0<Γ.P.cellsOf E) (O:Rep Γ.P D w E z zs.toList):a1k Γ.P D w E (List.replicate n z) ((Array.range (n*Γ.P.cellsOf E)).map (zs[·%zs.size]!)).toList:=by
 have h:∀ j,j<n*Γ.P.cellsOf E->((Array.range (n*Γ.P.cellsOf E)).map (zs[·%zs.size]!)).toList[j]?=zs.toList[j%Γ.P.cellsOf E]?:=by grind [Nat.mod_lt,Array.toList_map,Array.range]
 refine ⟨by simp,λc hc=>?_,λi x hi=>?_⟩
 ·obtain ⟨j,M,rfl⟩:=List.mem_iff_getElem.1 hc;have I:j<n*Γ.P.cellsOf E:=by simpa using M
  have:=h j I;rw [Am M] at this;exact O.oneCell _ (List.mem_iff_getElem?.2 ⟨_,this.symm⟩)
 ·have H:=(A5.1 hi);obtain ⟨J,Z⟩:=H;simp at J;simp at Z;subst Z;have o:(i+1)*Γ.P.cellsOf E<=n*Γ.P.cellsOf E:=Au _ (by omega);rw [Nat.add_mul] at o;have e:((((Array.range (n*Γ.P.cellsOf E)).map (zs[·%zs.size]!)).toList.drop (i*Γ.P.cellsOf E)).take (Γ.P.cellsOf E))=zs.toList:=by
   apply List.ext_getElem?;grind [List.getElem?_take_of_lt,Nat.mul_comm,Nat.mul_add_mod,Nat.mod_eq_of_lt,List.getElem?_eq_none]
  rw [e];exact O
theorem ann (hw:WRel Γ D ow μ st w) (T:TypeId) (n:Nat) (ps:List (Nat×SV)) (I:Array (Nat×Value)) (v:SV) (hl:ps.length=I.size) (J:∀ (m i:Nat) (s:SV) (j:Nat) (u:Value),ps[m]?=some (i,s)->I[m]?=some (j,u)->i=j/\SRep Γ.P D w ow μ st s u) (h:aj1 Γ.P T n ps=some v):
 ∃ u w',(Instr.buildSlice T n I).run Γ.P w=.ok u w'/\OpRes Γ D ow μ st w (.ok (.value u) w') v st:=by
 unfold aj1 at h
 split at h
 ·rename_i E E' fs hT;cases hc:(!(isOf Γ.P E (.agg E' fs))&&afd Γ.P E (.agg E' fs)&&ab3 Γ.P E&&Nat.ble (Γ.P.cellsOf E) 4096) with
  | false=>grind
  | true=>
   rw [hc] at h;simp only [Af,Ak] at h;subst h;simp only [Aj,Bool.not_eq_true'] at hc;obtain ⟨⟨⟨_,c2⟩,c3⟩,c4⟩:=hc;have aa:=Aq c4;obtain ⟨an,z,M,ae,ad,am,aj,al,ak⟩:=abl (Γ:=Γ) (D:=D) (ow:=ow) (μ:=μ) (st:=st) (w:=w) c3;obtain ⟨v0,Z⟩:∃ v0,I[0]?=some v0:=by
    have:0<I.size:=by grind
    exact ⟨_,Array.getElem?_eq_getElem this⟩
   obtain ⟨j,u⟩:=v0;obtain ⟨ab,hs⟩:=J 0 0 _ j u rfl Z;subst ab;have af:I.toList=[(0,u)]:=by
    have h1:I.toList.length=1:=by grind
    obtain ⟨a,ha⟩:=List.length_eq_one_iff.1 h1;have h2:I.toList[0]?=some (0,u):=by simpa using Z
    grind
   obtain ⟨f1,f2,f3⟩:=aep hs c2;have ai:u.cells.size=Γ.P.cellsOf E:=by simpa using f1
   have H:∀ c:Array Value,c.size=Γ.P.cellsOf E->Instr.fill (λi=>some (i*Γ.P.cellsOf E,Γ.P.cellsOf E)) c [(0,u)]=some u.cells:=by intro c ag;unfold Instr.fill;simp only;rw [if_neg (by grind),ahu _ _ _ (by omega)];unfold Instr.fill;congr 1;apply Array.ext';simp only [Nat.zero_mul];unfold aa7;rw [List.take_zero,A6,Nat.zero_add,Be (by simp;omega),List.append_nil]
   refine ⟨.slice (some ⟨w.heap.size,0,none⟩) 1 1,w.alloc (.cells u.cells E),?_,?_⟩
   ·have O:¬(1*Γ.P.cellsOf E>2^24):=by omega
    simp only [Instr.buildSlice,Sem.run_bind,run_underlying hT,Result.andThen_ok,aau M ad];rw [if_neg O,af];by_cases h0:1*Γ.P.cellsOf E=0
    ·rw [if_pos h0];simp only [pure_bind];rw [H _ (by simp)];simp [newRow]
    ·rw [if_neg h0];simp only [pure_bind,Sem.run_bind,zeroValue,typeInfo,run_program,Result.andThen_ok,M,Sem.run_pure,ae];rw [H _ (by simp)];simp [newRow]
   ·have g:=Grew.alloc w (.cells u.cells E);refine OpRes.grew hw (D':=λb o=>D b o\/(b=w.heap.size/\o<u.cells.toList.length)) rfl g (λb o d=>Or.inl d) (λb o d=>d.imp id (λd=>⟨by omega,by rw [d.1];simp⟩)) (λm=>?_);exact SRep.lits (L:=u.cells.toList) (ss:=[.agg E' fs]) (by simpa using f1) f2 (λj x hj=>by
     have ah:=(A5.1 hj).1;refine ⟨Or.inr ⟨rfl,by omega⟩,?_⟩;rw [Nat.zero_add,World.cell?_alloc_new];simpa using hj) (λi s M=>by
     cases i with
     | succ i=>cases M
     | zero=>cases M;rw [Nat.zero_mul,Ap,<-f1,List.take_length,f3];exact hs.mono m)
 ·cases h
theorem amq (hw:WRel Γ D ow μ st w) (T:TypeId) (n:Nat) (M:List (Nat×SV)) (vs:Array (Nat×Value)) (v:SV) (hl:M.length=vs.size) (aa:∀ (m i:Nat) (s:SV) (j:Nat) (u:Value),M[m]?=some (i,s)->vs[m]?=some (j,u)->i=j/\SRep Γ.P D w ow μ st s u) (h:acu Γ.P T n M=.val true v):
 ∃ u w',(Instr.buildSlice T n vs).run Γ.P w=.ok u w'/\OpRes Γ D ow μ st w (.ok (.value u) w') v st:=by
 unfold acu at h
 cases ab:aj1 Γ.P T n M with
 | some v'=>
  rw [ab] at h
  simp only [Ac.val.injEq,true_and] at h;grind [ann]
 | none=>
 rw [ab] at h
 simp only at h
 split at h
 ·rename_i E hT;cases hc:(ab3 Γ.P E&&isOf Γ.P E (aa1 Γ.P 12 E)&&!(Nat.beq (Γ.P.cellsOf E) 0)&&Nat.ble (n*Γ.P.cellsOf E) 4096&&M.all (afi Γ.P n E)) with
  | false=>grind
  | true=>
   rw [hc] at h;simp only [Af,Ac.val.injEq,true_and] at h;subst h;simp only [Aj,Bool.not_eq_true'] at hc;obtain ⟨⟨⟨⟨c1,c2⟩,c3⟩,c4⟩,c5⟩:=hc;have ak:0<Γ.P.cellsOf E:=by rcases Nat.eq_zero_or_pos (Γ.P.cellsOf E) with h0 | h0;all_goals simp_all
   have ah:n*Γ.P.cellsOf E<=4096:=Aq c4;obtain ⟨aq,z,hi,aj,ai,ag,ao,al,ap⟩:=abl (Γ:=Γ) (D:=D) (ow:=ow) (μ:=μ) (st:=st) (w:=w) c1;have I:=aa2 al E c2;have af:=asx (Γ:=Γ) (D:=D) (w:=w) E n (toPV (aa1 Γ.P 12 E)) z.cells ag ak I;have O:aaj Γ.P E=true\/Γ.P.cellsOf E=1:=by
    cases Z:aaj Γ.P E with
    | true=>exact Or.inl rfl
    | false=>obtain ⟨u,hu⟩:=I.single Z;right;rw [<-ag];have:=congrArg List.length hu;simpa using this
   obtain ⟨H,r1,r2,r3⟩:=aht (Γ:=Γ) (D:=D) (w:=w) (ow:=ow) (μ:=μ) (st:=st) E n M vs.toList _ _ (by simpa using hl) (λm i s j u h1 h2=>aa m i s j u h1 (by simpa using h2)) (λp hp=>Bj.1 c5 p hp)
    (λp hp v hv=>by
     have hf:=Bj.1 c5 p hp;simp only [afi,Aj] at hf;have hr:=aa2 hv E hf.2;rcases O with Z | h1
     ·exact hr.aggLen Z
     ·cases Z:aaj Γ.P E with
      | true=>exact hr.aggLen Z
      | false=>obtain ⟨u,hu⟩:=hr.single Z;rw [hu,h1];rfl) (by simp) af
   obtain ⟨e1,e2,e3⟩:=r3;refine ⟨.slice (some ⟨w.heap.size,0,none⟩) n n,w.alloc (.cells H E),?_,?_⟩
   ·have ad:¬(n*Γ.P.cellsOf E>2^24):=by omega
    simp only [Instr.buildSlice,Sem.run_bind,run_underlying hT,Result.andThen_ok,aau hi ai];rw [if_neg ad];by_cases h0:n*Γ.P.cellsOf E=0
    ·rw [if_pos h0];have am:Instr.fill (λi=>some (i*Γ.P.cellsOf E,Γ.P.cellsOf E)) ((Array.range (n*Γ.P.cellsOf E)).map ((#[]:Array Value)[·%(#[]:Array Value).size]!)) vs.toList=some H:=by
      grind
     simp only [pure_bind,am];simp [newRow]
    ·rw [if_neg h0];simp only [pure_bind,Sem.run_bind,zeroValue,typeInfo,run_program,Result.andThen_ok,hi,Sem.run_pure,aj,r1];simp [newRow]
   ·have J:(ado (List.replicate n (toPV (aa1 Γ.P 12 E))) M).length=n:=r2;have g:=Grew.alloc w (.cells H E);refine OpRes.grew hw (D':=λb o=>D b o\/(b=w.heap.size/\o<H.toList.length)) rfl g (λb o d=>Or.inl d) (λb o d=>d.imp id (λd=>⟨by omega,by rw [d.1];simp⟩)) (λm=>?_);have ae:=SliceRep.mk (P:=Γ.P) (D:=λb o=>D b o\/(b=w.heap.size/\o<H.toList.length)) (w:=w.alloc (.cells H E)) (E:=E) (b:=w.heap.size) (off:=0) (cap:=n) (xs:=ado (List.replicate n (toPV (aa1 Γ.P 12 E))) M) (L:=H.toList)
     (by omega) e1 (λi x hx=>(e3 i x hx).mono m.dom m.keeps) (λj u hj=>by have an:=(A5.1 hj).1;refine ⟨Or.inr ⟨rfl,by omega⟩,?_⟩;rw [Nat.zero_add,World.cell?_alloc_new];simpa using hj)
    rw [J] at ae;have hl:=SRep.lit (P:=Γ.P) (w:=w.alloc (.cells H E)) (ow:=ow) (μ:=μ) (st:=st) (by rw [J];exact ae);grind
 ·simp at h
theorem ar4 (hw:WRel Γ D ow μ st w) (T:TypeId) (x y:SV) (xv yv:Value) (v:SV) (st':List BX) (hx:SRep Γ.P D w ow μ st x xv) (hy:SRep Γ.P D w ow μ st y yv) (h:ae7 Γ.P T x y st=.upd true v st'):
 ∃ u w',(Instr.makeSlice T xv yv).run Γ.P w=.ok u w'/\OpRes Γ D ow μ st w (.ok (.value u) w') v st':=by
 unfold ae7 at h
 split at h
 ·rename_i E m c hT;cases hc:(ab3 Γ.P E&&isOf Γ.P E (aa1 Γ.P 12 E)&&!(Nat.beq (Γ.P.cellsOf E) 0)&&Nat.ble (Γ.P.bytesOf E) 512) with
  | false=>grind
  | true=>
   rw [hc] at h;simp only [Af,Ac.upd.injEq,A4] at h;obtain ⟨hb,rfl,rfl⟩:=h;simp only [Aj,Bool.not_eq_true'] at hc;obtain ⟨⟨⟨c1,c0⟩,c2⟩,c3⟩:=hc;have af:0<Γ.P.cellsOf E:=by rcases Nat.eq_zero_or_pos (Γ.P.cellsOf E) with h0 | h0;all_goals simp_all
   have aj:Γ.P.bytesOf E<=512:=Aq c3;obtain ⟨H,z,hi,ad,M,ah,al,ag,am⟩:=abl (Γ:=Γ) (D:=D) (ow:=ow) (μ:=μ) (st:=st) (w:=w) c1;have ak:H.bytes=Γ.P.bytesOf E:=by simp [Program.bytesOf,hi]
   cases hx;cases hy;obtain ⟨m,rfl⟩:∃ n:Nat,m=(n:Int):=⟨m.toNat,by omega⟩;obtain ⟨n,rfl⟩:∃ n:Nat,c=(n:Int):=⟨c.toNat,by omega⟩;have hn:n<=68719476736:=by grind [aae]
   have aa:(H.bytes:Int)*(n:Int)<=281474976710656:=by have h1:H.bytes*n<=512*68719476736:=Nat.mul_le_mul (by grind) hn;grind
   have hr:=run_make (P:=Γ.P) w T E H z hT hi ad .i64 .i64 m n (by omega) (by omega) aa (by omega);simp only [Ai] at hr;have I:=aa2 (ag) E c0;refine ⟨_,_,hr,?_⟩;have Z:=asx (Γ:=Γ) (D:=D) (w:=w) E n (toPV (aa1 Γ.P 12 E)) z.cells ah af I;have O:m<=n:=by omega
   have J:(madeCells z.cells (n*H.size)).size=n*Γ.P.cellsOf E:=by rw [size_madeCells,M]
   have ai:(w.alloc (.cells (madeCells z.cells (n*H.size)) E)).heap[w.heap.size]?=some (.cells (madeCells z.cells (n*H.size)) E (0,0)):=aas w _;have ab:∀ (i:Nat) (x:PV),(List.replicate m (toPV (aa1 Γ.P 12 E)))[i]?=some x->Rep Γ.P D w E x (((madeCells z.cells (n*H.size)).toList.drop (i*Γ.P.cellsOf E)).take (Γ.P.cellsOf E)):=by
    intro i x hx;have ae:i<m:=by grind
    rw [List.getElem?_replicate,if_pos ae] at hx;have:=Z.2.2 i x (by grind);rw [M];exact this
   obtain ⟨u1,u2⟩:=hw.newOwn (.cells (madeCells z.cells (n*H.size)) E) (.arr E 0 (List.replicate m (toPV (aa1 Γ.P 12 E)))) (λmv=>by
    refine Or.inr ⟨madeCells z.cells (n*H.size),by grind [aah],by rw [aah,aah],λo d=>?_,?_,λi x hx=>(ab i x hx).mono mv.dom mv.keeps⟩
    ·rw [aah] at d;have:=hw.dlt _ _ d;omega
    ·rw [J];simpa using Au _ O)
   refine ⟨_,_,_,_,_,Or.inl rfl,u1,u2,?_⟩;have hk:(st++[BX.arr E 0 (List.replicate m (toPV (aa1 Γ.P 12 E)))])[st.length]?=some (.arr E 0 (List.replicate m (toPV (aa1 Γ.P 12 E)))):=by grind
   have:=SRep.arr (P:=Γ.P) (D:=D) (w:=w.alloc (.cells (madeCells z.cells (n*H.size)) E)) (ow:=upd ow w.heap.size (some st.length)) (μ:=upd μ st.length w.heap.size) (cap:=n) hk (by simpa using O) (by unfold maxLen;omega) (by grind [aah]) (by rw [aah,aah]) J.symm;grind [aah]
 ·cases h
theorem av5 (hw:WRel Γ D ow μ st w) (T ty:TypeId) (x:SV) (xv:Value) (v:SV) (st':List BX) (hx:SRep Γ.P D w ow μ st x xv) (h:ae4 Γ.P st T x=.upd true v st'):
 ∃ u w',(Builtin.clear_ #[T] ty #[xv]).run Γ.P w=.ok u w'/\OpRes Γ D ow μ st w (.ok (.value u) w') v st':=by
 unfold ae4 at h
 split at h
 ·rename_i E k g o E' hT;cases ad:aee st k g E with
  | none=>grind
  | some xs=>
   rw [ad] at h;simp only at h;cases hc:(Nat.beq E E'&&ab3 Γ.P E&&isOf Γ.P E (aa1 Γ.P 12 E)&&!(Nat.beq (Γ.P.cellsOf E) 0)) with
   | false=>grind
   | true=>
    rw [hc] at h;simp only [Af,Ac.upd.injEq,A4] at h;obtain ⟨ax,rfl,rfl⟩:=h;simp only [Aj,Bool.not_eq_true'] at hc;obtain ⟨⟨⟨c1,c2⟩,c3⟩,c4⟩:=hc;have:=Ae c1;subst this;have ak:0<Γ.P.cellsOf E:=by rcases Nat.eq_zero_or_pos (Γ.P.cellsOf E) with h0 | h0;all_goals simp_all
    have aa:=abw ad;obtain ⟨aC,z,hi,aj,aw,ap,aA,ao,aB⟩:=abl (Γ:=Γ) (D:=D) (ow:=ow) (μ:=μ) (st:=st) (w:=w) c2;have ab:=aa2 ao E c3;have M:=asx (Γ:=Γ) (D:=D) (w:=w) E (xs.length-o) (toPV (aa1 Γ.P 12 E)) z.cells ap ak ab;cases hx with
    | avwOld hk hg=>grind
    | @avw _ _ _ cap _ _ cur hk au hl ay H al az=>
     rw [aa] at hk;cases hk;obtain ⟨n,hn⟩:∃ n,xs.length-o=n+1:=⟨xs.length-o-1,by omega⟩;rcases hw.obj k _ aa with h0 | ⟨aq,q1,q2,q3,q4,q5⟩
     ·grind
     rw [H] at q1;cases q1;generalize af:(Builtin.zeroCells z.cells (xs.length-o)).toList=I;have ag:((Array.range ((xs.length-o)*Γ.P.cellsOf E)).map (z.cells[·%z.cells.size]!)).toList=I:=by grind [Builtin.zeroCells]
     rw [ag] at M;obtain ⟨e1,e2,e3⟩:=M;simp only [List.length_replicate] at e1;have av:o*Γ.P.cellsOf E+(xs.length-o)*Γ.P.cellsOf E=xs.length*Γ.P.cellsOf E:=by rw [<-Nat.add_mul];congr 1;omega
     have J:o*Γ.P.cellsOf E+I.length<=cur.toList.length:=by grind
     have ae:=run_storeCells_at Γ.P (μ k) (o*Γ.P.cellsOf E) E I 0 cur w H (by simpa using J) e2;simp only [Nat.add_zero] at ae;have am:(aa7 cur.toList (o*Γ.P.cellsOf E) I).toArray.size=cur.size:=by grind [abq]
     have O:(w.setRow (μ k) (aa7 cur.toList (o*Γ.P.cellsOf E) I).toArray).heap[μ k]?=some (.cells (aa7 cur.toList (o*Γ.P.cellsOf E) I).toArray E (0,0)):=setRow_heap w (μ k) cur _ E _ H;have ah:∀ (i:Nat) (x:PV),(xs.take o++List.replicate (xs.length-o) (toPV (aa1 Γ.P 12 E)))[i]?=some x->Rep Γ.P D w E x ((((aa7 cur.toList (o*Γ.P.cellsOf E) I).toArray).toList.drop (i*Γ.P.cellsOf E)).take (Γ.P.cellsOf E)):=by
      intro i x Z;simp only;by_cases ai:i<o
      ·rw [A3 (by grind),List.getElem?_take_of_lt ai] at Z;have:(i+1)*Γ.P.cellsOf E<=o*Γ.P.cellsOf E:=Au _ (by omega);grind [Nat.add_mul,adq]
      ·have an:(xs.take o).length=o:=by grind
       rw [A7 (by omega),an] at Z;have:=e3 (i-o) x Z;have ar:i-o<xs.length-o:=by grind
       have h2:(i-o+1)*Γ.P.cellsOf E<=(xs.length-o)*Γ.P.cellsOf E:=Au _ (by omega);rw [Nat.add_mul] at h2;have h3:o*Γ.P.cellsOf E+(i-o)*Γ.P.cellsOf E=i*Γ.P.cellsOf E:=by rw [<-Nat.add_mul];congr 1;omega
       have h4:(((aa7 cur.toList (o*Γ.P.cellsOf E) I).drop (i*Γ.P.cellsOf E)).take (Γ.P.cellsOf E))=((I.drop ((i-o)*Γ.P.cellsOf E)).take (Γ.P.cellsOf E)):=by
        apply List.ext_getElem?;intro j;by_cases hj:j<Γ.P.cellsOf E
        ·rw [List.getElem?_take_of_lt hj,List.getElem?_take_of_lt hj,List.getElem?_drop,List.getElem?_drop,aey J,if_pos (by omega)];congr 1;omega
        grind
       grind
     obtain ⟨r1,r2⟩:=hw.setArr (xs':=xs.take o++List.replicate (xs.length-o) (toPV (aa1 Γ.P 12 E))) aa H al q3 O am (by simp;omega) (λb hb=>setRow_other w (μ k) b _ hb) (by simp) rfl rfl rfl
      ⟨by grind,ah⟩
     refine ⟨.tuple #[],_,?_,_,_,_,_,_,Or.inl rfl,r1,r2,.tup (by simp) (λi s v hs=>by simp at hs)⟩;rw [hn] at af ⊢;simp only [Builtin.clear_,List.getElem?_toArray,List.getElem?_cons_zero,Sem.run_bind,run_underlying hT,Result.andThen_ok,zeroValue,typeInfo,run_program,hi,Sem.run_pure,aj,af,ae];rfl
 ·cases h
theorem ape (Z:WRel Γ D ow μ st w) (T ty:TypeId) (x y:SV) (xv yv:Value) (v:SV) (st':List BX) (hx:SRep Γ.P D w ow μ st x xv) (hy:SRep Γ.P D w ow μ st y yv) (h:acb Γ.P st T x y=.upd true v st'):
 ∃ u w',(Builtin.append_ #[T,T] ty #[xv,yv]).run Γ.P w=.ok u w'/\OpRes Γ D ow μ st w (.ok (.value u) w') v st':=by
 unfold acb at h
 split at h
 ·rename_i E s;split at h
  ·rename_i j hj;split at h
   ·rename_i F g xs hk;cases J:(aaj Γ.P E&&isOf Γ.P E (frzS st s)&&!(bek x j)) with
    | false=>grind
    | true=>
     rw [J] at h;simp only [Af] at h;simp only [Aj] at J;obtain ⟨⟨b1,b2⟩,_⟩:=J;obtain ⟨h1,o⟩:=Z.freezeRow hk;cases hy with
     | @lits _ _ b off L l1 l2 l3 l4=>
      have I:=l4 0 s rfl;rw [Nat.zero_mul,Ap] at I;simp only [Ax,Aw,Nat.zero_add,Nat.one_mul] at l1;rw [<-l1,List.take_length] at I;have ab:=aij (fz:=[j]) Z I (λk' af=>by grind);have m2:Moves (ac3 D ow μ st [j]) w ow μ st (ac3 D ow μ st [j]) w (amh ow j) μ (st.set j (.arr F (g+1) [])):=⟨λ_ _ d=>d,Keeps.refl _ _,o.box,o.map,o.obj,o.arr,λk' g' e=>by obtain ⟨g2,e2,ag,I⟩:=o.acc k' g' e;grind⟩
      have z:=aa2 (ab.mono m2) E b2;rw [alo (Or.inl b1) l2] at z;have hl:SRep Γ.P (ac3 D ow μ st [j]) w (amh ow j) μ (st.set j (.arr F (g+1) [])) (.lit E [toPV (frzS st s)]) (.slice (some ⟨b,off,none⟩) 1 1):=by
       refine SRep.lit (xs:=[toPV (frzS st s)]) (.mk (L:=L) (by simp) (by simpa using l1) (λi x hi=>?_) (l3.mono o.dom o.keeps));cases i with
       | zero=>grind
       | succ i=>simp at hi
      obtain ⟨u,w',H,u2,w2,D2,ad,ae,hr,aa,M,O⟩:=al7 h1 T ty x _ xv _ v st' (hx.mono o) hl h;exact ⟨u,w',H,u2,w2,D2,ad,ae,hr,aa,o.trans M,O⟩
   ·cases h
  ·cases h
 ·exact al7 Z T ty x _ xv yv v st' hx hy h
end
end Go.Ab
