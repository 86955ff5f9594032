/- Composite literals. -/
import Derived.Test.YtodichgnoiaanaaGreatAbAppend
set_option linter.unusedVariables false
set_option linter.unusedSimpArgs false
set_option linter.unnecessarySimpa false
namespace Go.Ab
open Go
theorem atf (off:Nat):∀ (xs:List Value) (s:Nat) (cells:Array Value),off+s+xs.length<=cells.size->
 ((xs.zipIdx s).foldl (fun cs (p:Value×Nat)=>cs.setIfInBounds (off+p.2) p.1) cells).toList=abf cells.toList (off+s) xs:=by
 intro xs
 induction xs with
 | nil=>intro s cells h;simp [abf]
 | cons x r ih=>
  intro s cells h
  simp only [List.length_cons] at h
  simp only [List.zipIdx_cons,List.foldl_cons]
  rw [ih (s+1) _ (by simp;omega),Array.toList_setIfInBounds]
  apply List.ext_getElem?
  intro j
  have hcl:cells.toList.length=cells.size:=by simp
  rw [afn (by simp;omega),afn (by simp;omega)]
  simp only [List.length_cons]
  by_cases h1:off+(s+1)<=j/\j<off+(s+1)+r.length
  ·rw [if_pos h1,if_pos (by omega),show j-(off+s)=(j-(off+(s+1)))+1 by omega,List.getElem?_cons_succ]
  ·rw [if_neg h1]
   by_cases h2:j=off+s
   ·subst h2
    rw [if_pos (by omega),List.getElem?_set_self (by omega)]
    simp
   ·rw [if_neg (by omega),List.getElem?_set_ne (by omega)]
theorem akn (off:Nat) (v:Array Value) (cells:Array Value) (h:off+v.size<=cells.size):
 v.zipIdx.foldl (fun cs (p:Value×Nat)=>cs.setIfInBounds (off+p.2) p.1) cells=(abf cells.toList off v.toList).toArray:=by
 rw [<-Array.foldl_toList]
 have:=atf off v.toList 0 cells (by simpa using h)
 rw [Nat.add_zero] at this
 rw [<-this]
 simp
section
variable {Γ:Ctx}{D:Dom}{ow:Own}{μ:Nat->Nat}{st:List BX}{w:World}
theorem axx (fs:List Field) (h:∀ f,f∈fs->Γ.P.cellsOf f.type≠0):(fs.mapM fun f=>(do pure (f.offset,<-sizeOf f.type):Sem (Nat×Nat))).run Γ.P w=.ok (fs.map fun f=>(f.offset,Γ.P.cellsOf f.type)) w:=by
 induction fs with
 | nil=>simp
 | cons f r ih=>
  obtain ⟨i,hi,hs⟩:=aa5 (h f (by simp))
  have ih':=ih (fun g hg=>h g (by simp [hg]))
  simp only [List.mapM_cons,Sem.run_bind,aa3 hi hs,Result.andThen_ok,Sem.run_pure,ih',List.map_cons]
theorem awy (T:TypeId) (ds:Array Field) (hT:Γ.P.underlying T=some (.struct ds)) (hL:Laid Γ.P T ds):∀ (ps:List (Nat×SV)) (vs:List (Nat×Value)) (fs fs':List SV) (cells:Array Value),
 ps.length=vs.length->(∀ (n i:Nat) (s:SV) (j:Nat) (v:Value),ps[n]?=some (i,s)->vs[n]?=some (j,v)->i=j/\SRep Γ.P D w ow μ st s v)->
 (∀ p,p∈ps->ala Γ.P ds p=true)->SRep Γ.P D w ow μ st (.agg T fs) (.agg cells)->ad1 fs ps=some fs'->
 ∃ cells',Instr.fill (fun i=>(ds.map fun f=>(f.offset,Γ.P.cellsOf f.type))[i]?) cells vs=some cells'/\SRep Γ.P D w ow μ st (.agg T fs') (.agg cells'):=by
 intro ps
 induction ps with
 | nil=>
  intro vs fs fs' cells hl _ _ hs hb
  have:vs=[]:=List.eq_nil_of_length_eq_zero (by simpa using hl.symm)
  subst this
  simp [ad1] at hb;subst hb
  exact ⟨cells,rfl,hs⟩
 | cons p r ih=>
  intro vs fs fs' cells hl hall hfit hs hb
  cases vs with
  | nil=>simp at hl
  | cons q vr=>
   obtain ⟨i,s⟩:=p
   obtain ⟨j,v⟩:=q
   obtain ⟨hij,hsv⟩:=hall 0 i s j v rfl rfl
   subst hij
   have hf0:=hfit (i,s) (by simp)
   simp only [ala] at hf0
   cases hf:ds[i]? with
   | none=>rw [hf] at hf0;cases hf0
   | some f=>
    rw [hf] at hf0
    simp only at hf0
    obtain ⟨f1,f2,f3⟩:=ae6 hsv hf0
    unfold ad1 at hb
    cases hlt:Nat.blt i fs.length with
    | false=>rw [hlt] at hb;simp at hb
    | true=>
     rw [hlt] at hb
     simp only [cond_true] at hb
     generalize hcv:Value.agg cells=cv at hs
     cases hs with
     | @agg _ ds2 _ cs hT2 hl2 ho2 hv2 hp2=>
      rw [hT] at hT2;cases hT2
      have hcc:cells=cs.toArray:=by simpa using hcv
      subst hcc
      have hin:=hL.inside i f hf
      have hvl:v.cells.toList.length=Γ.P.cellsOf f.type:=f1
      have hfit2:f.offset+v.cells.toList.length<=cs.length:=by omega
      have hvsz:v.cells.size=Γ.P.cellsOf f.type:=by simpa using hvl
      have hfold:=akn f.offset v.cells cs.toArray (by simp;omega)
      have hnew:SRep Γ.P D w ow μ st (.agg T (fs.set i s)) (.agg (abf cs f.offset v.cells.toList).toArray):=by
       refine .agg hT (by rw [abx hfit2];exact hl2) ?_ (by simpa using hv2) (fun n x g hn hg=>?_)
       ·intro c hc
        unfold abf at hc
        simp only [List.mem_append] at hc
        rcases hc with (hc | hc) | hc
        ·exact ho2 c (List.mem_of_mem_take hc)
        ·exact f2 c hc
        ·exact ho2 c (List.mem_of_mem_drop hc)
       ·by_cases hni:n=i
        ·subst hni
         rw [hf] at hg;cases hg
         rw [List.getElem?_set_self (Nat.le_of_ble_eq_true hlt)] at hn
         cases hn
         rw [<-hvl,am2 hfit2,f3]
         exact hsv
        ·rw [List.getElem?_set_ne (by omega)] at hn
         rw [adn hfit2]
         ·exact hp2 n x g hn hg
         ·rcases Nat.lt_or_gt_of_ne hni with h' | h'
          ·have:=hL.apart n i g f hg hf h';omega
          ·have:=hL.apart i n f g hf hg h';omega
      obtain ⟨cells',r1,r2⟩:=ih vr (fs.set i s) fs' _ (by simpa using hl) (fun n a b c d h1 h2=>hall (n+1) a b c d (by simpa using h1) (by simpa using h2)) (fun p hp=>hfit p (by simp [hp])) hnew hb
      refine ⟨cells',?_,r2⟩
      unfold Instr.fill
      simp only [Array.getElem?_map,hf,Option.map_some]
      rw [if_neg (by simp [hvsz];omega)]
      rw [hfold]
      simpa using r1
def ax6 (P:Program) (D:Dom) (w:World) (E:TypeId) (xs:List PV) (L:List Value):Prop:=
 L.length=xs.length*P.cellsOf E/\(∀ c,c∈L->c.oneCell'=true)/\∀ (i:Nat) (x:PV),xs[i]?=some x->Rep P D w E x ((L.drop (i*P.cellsOf E)).take (P.cellsOf E))
theorem agm (E:TypeId) (n:Nat):∀ (ps:List (Nat×SV)) (vs:List (Nat×Value)) (xs:List PV) (cells:Array Value),
 ps.length=vs.length->(∀ (m i:Nat) (s:SV) (j:Nat) (v:Value),ps[m]?=some (i,s)->vs[m]?=some (j,v)->i=j/\SRep Γ.P D w ow μ st s v)->
 (∀ p,p∈ps->aen Γ.P n E p=true)->(∀ p,p∈ps->∀ v,SRep Γ.P D w ow μ st p.2 v->v.cells.toList.length=Γ.P.cellsOf E)->xs.length=n->ax6 Γ.P D w E xs cells.toList->
 ∃ cells',Instr.fill (fun i=>some (i*Γ.P.cellsOf E,Γ.P.cellsOf E)) cells vs=some cells'/\(ac5 xs ps).length=n/\ax6 Γ.P D w E (ac5 xs ps) cells'.toList:=by
 intro ps
 induction ps with
 | nil=>
  intro vs xs cells hl _ _ _ hn hs
  have:vs=[]:=List.eq_nil_of_length_eq_zero (by simpa using hl.symm)
  subst this
  exact ⟨cells,rfl,hn,hs⟩
 | cons p r ih=>
  intro vs xs cells hl hall hfit hlen hn hs
  cases vs with
  | nil=>simp at hl
  | cons q vr=>
   obtain ⟨i,s⟩:=p
   obtain ⟨j,v⟩:=q
   obtain ⟨hij,hsv⟩:=hall 0 i s j v rfl rfl
   subst hij
   have hf0:=hfit (i,s) (by simp)
   simp only [aen,Bool.and_eq_true] at hf0
   have hlt:i<n:=Nat.le_of_ble_eq_true hf0.1
   have hrep:=aba hsv E hf0.2
   have hvl:v.cells.toList.length=Γ.P.cellsOf E:=hlen (i,s) (by simp) v hsv
   have hvsz:v.cells.size=Γ.P.cellsOf E:=by simpa using hvl
   obtain ⟨e1,e2,e3⟩:=hs
   have hmul:(i+1)*Γ.P.cellsOf E<=n*Γ.P.cellsOf E:=Nat.mul_le_mul_right _ (by omega)
   rw [Nat.add_mul] at hmul
   have hfit2:i*Γ.P.cellsOf E+v.cells.toList.length<=cells.toList.length:=by rw [e1,hn];omega
   have hfold:=akn (i*Γ.P.cellsOf E) v.cells cells (by simp at hfit2;omega)
   have hnew:ax6 Γ.P D w E (xs.set i (toPV s)) (abf cells.toList (i*Γ.P.cellsOf E) v.cells.toList):=by
    refine ⟨by rw [abx hfit2,e1];simp,?_,fun m x hm=>?_⟩
    ·intro c hc
     unfold abf at hc
     simp only [List.mem_append] at hc
     rcases hc with (hc | hc) | hc
     ·exact e2 c (List.mem_of_mem_take hc)
     ·exact hrep.oneCell c hc
     ·exact e2 c (List.mem_of_mem_drop hc)
    ·by_cases hmi:m=i
     ·subst hmi
      rw [List.getElem?_set_self (by omega)] at hm
      cases hm
      have:=am2 hfit2
      rw [hvl] at this
      rw [this];exact hrep
     ·rw [List.getElem?_set_ne (by omega)] at hm
      rw [adn hfit2]
      ·exact e3 m x hm
      ·rw [hvl]
       rcases Nat.lt_or_gt_of_ne hmi with h' | h'
       ·have:(m+1)*Γ.P.cellsOf E<=i*Γ.P.cellsOf E:=Nat.mul_le_mul_right _ (by omega)
        rw [Nat.add_mul] at this;omega
       ·have:(i+1)*Γ.P.cellsOf E<=m*Γ.P.cellsOf E:=Nat.mul_le_mul_right _ (by omega)
        rw [Nat.add_mul] at this;omega
   obtain ⟨cells',r1,r2,r3⟩:=ih vr (xs.set i (toPV s)) (abf cells.toList (i*Γ.P.cellsOf E) v.cells.toList).toArray (by simpa using hl) (fun m a b c d h1 h2=>hall (m+1) a b c d (by simpa using h1) (by simpa using h2)) (fun p hp=>hfit p (by simp [hp])) (fun p hp=>hlen p (by simp [hp])) (by simpa using hn) (by simpa using hnew)
   refine ⟨cells',?_,r2,r3⟩
   unfold Instr.fill
   simp only
   rw [if_neg (by simp at hfit2;simp [hvsz];omega),hfold]
   exact r1
theorem as5 (T:TypeId) (ps:List (Nat×SV)) (vs:Array (Nat×Value)) (v:SV) (hl:ps.length=vs.size) (hall:∀ (n i:Nat) (s:SV) (j:Nat) (u:Value),ps[n]?=some (i,s)->vs[n]?=some (j,u)->i=j/\SRep Γ.P D w ow μ st s u) (h:ah2 Γ.P T ps=.val true v):
 ∃ u,(Instr.build T vs).run Γ.P w=.ok u w/\SRep Γ.P D w ow μ st v u:=by
 unfold ah2 at h
 split at h
 ·rename_i n E T' zs hT hz
  cases hc:(ab5 Γ.P T&&aa1 Γ.P E&&Nat.beq (Γ.P.cellsOf T) (n*Γ.P.cellsOf E)&&ps.all (aen Γ.P n E)) with
  | false=>rw [hc] at h;simp at h
  | true=>
   rw [hc] at h
   simp only [cond_true,Ac.val.injEq,true_and] at h;subst h
   simp only [Bool.and_eq_true,aa1,Bool.not_eq_true',Bool.or_eq_true] at hc
   obtain ⟨⟨⟨c1,⟨c2,c2b⟩,c2c⟩,c3⟩,c4⟩:=hc
   have c3:=Nat.eq_of_beq_eq_true c3
   have hne:Γ.P.cellsOf E≠0:=fun h0=>by rw [h0] at c2;cases c2
   obtain ⟨ie,hie,hse⟩:=aa5 hne
   obtain ⟨inf,z,hi,hiz,his,hzs,hze,hzr,hzo⟩:=abq (Γ:=Γ) (D:=D) (ow:=ow) (μ:=μ) (st:=st) (w:=w) c1
   have hTT:T'=T:=by simp only [abd,hT] at hz;cases hz;rfl
   subst hTT
   rw [hz] at hzr
   have ha:aaj Γ.P T'=true:=by simp [aaj,hT]
   have hel:ax6 Γ.P D w E zs z.cells.toList/\zs.length=n:=by
    generalize hzz:z=zz at hzr
    cases hzr with
    | data _ hr=>
     cases hr with
     | agg hT2=>rw [hT] at hT2;cases hT2
     | arr hT2 hl2 ho2 hv2 hr2=>
      rw [hT] at hT2;cases hT2
      simp only [hzz,Value.cells]
      exact ⟨⟨by rw [hl2,c3,hv2],ho2,hr2⟩,hv2⟩
   obtain ⟨cells',r1,r2,r3⟩:=agm (Γ:=Γ) (D:=D) (w:=w) (ow:=ow) (μ:=μ) (st:=st) E n ps vs.toList zs z.cells (by simpa using hl) (fun m i s j u h1 h2=>hall m i s j u h1 (by simpa using h2)) (fun p hp=>List.all_eq_true.1 c4 p hp)
    (fun p hp v hv=>by
     have hf:=List.all_eq_true.1 c4 p hp
     simp only [aen,Bool.and_eq_true] at hf
     have hr:=aba hv E hf.2
     cases haE:aaj Γ.P E with
     | true=>exact hr.aggLen haE
     | false=>
      rcases c2c with h' | h'
      ·rw [haE] at h';cases h'
      ·obtain ⟨u,hu⟩:=hr.single haE;rw [hu,Nat.eq_of_beq_eq_true h'];rfl) hel.2 hel.1
   obtain ⟨e1,e2,e3⟩:=r3
   refine ⟨.agg cells',by simp only [Instr.build,Sem.run_bind,zeroValue,typeInfo,run_program,Result.andThen_ok,hi,Sem.run_pure,hiz,run_underlying hT,aa3 hie hse,r1],?_⟩
   have:=SRep.data (P:=Γ.P) (D:=D) (w:=w) (ow:=ow) (μ:=μ) (st:=st) (T:=T') (v:=.agg (ac5 zs ps)) (cs:=cells'.toList) ha (.arr hT (by rw [e1,r2,c3]) e2 r2 e3)
   simpa using this
 ·rename_i ds T' zs hT hz
  cases hc:(ab5 Γ.P T&&abz Γ.P T&&ps.all (ala Γ.P ds)) with
  | false=>rw [hc] at h;simp at h
  | true=>
   rw [hc] at h
   simp only [cond_true] at h
   simp only [Bool.and_eq_true] at hc
   obtain ⟨⟨c1,c2⟩,c3⟩:=hc
   have hL:=ab9 c2 hT
   cases hb:ad1 zs ps with
   | none=>rw [hb] at h;simp at h
   | some fs=>
    rw [hb] at h
    simp only [Ac.val.injEq,true_and] at h;subst h
    obtain ⟨inf,z,hi,hiz,his,hzs,hze,hzr,hzo⟩:=abq (Γ:=Γ) (D:=D) (ow:=ow) (μ:=μ) (st:=st) (w:=w) c1
    have hTT:T'=T:=by simp only [abd,hT] at hz;cases hz;rfl
    subst hTT
    rw [hz] at hzr
    have hzagg:z=.agg z.cells:=by
     have ha:aaj Γ.P T'=true:=by simp [aaj,hT]
     rw [hze];simp [pack,ha,Value.cells]
    rw [hzagg] at hzr
    obtain ⟨cells',r1,r2⟩:=awy T' ds hT hL ps vs.toList zs fs z.cells (by simpa using hl) (fun n i s j u h1 h2=>hall n i s j u h1 (by simpa using h2)) (fun p hp=>by
     exact List.all_eq_true.1 c3 p hp) hzr hb
    refine ⟨.agg cells',?_,r2⟩
    have hpl:=axx (Γ:=Γ) (w:=w) ds.toList (fun f hf=>by
     obtain ⟨i,hi⟩:=List.mem_iff_getElem?.1 hf
     have:=hL.pos i f (by simpa using hi);omega)
    have hpl2:(ds.mapM fun f=>(do pure (f.offset,<-sizeOf f.type):Sem (Nat×Nat))).run Γ.P w=.ok (ds.map fun f=>(f.offset,Γ.P.cellsOf f.type)) w:=by
     rw [Array.mapM_eq_mapM_toList,Sem.run_map,hpl]
     simp only [Result.andThen_ok]
     congr 1
     apply Array.ext';simp
    simp only [Instr.build,Sem.run_bind,zeroValue,typeInfo,run_program,Result.andThen_ok,hi,Sem.run_pure,hiz,run_underlying hT,hpl2,r1]
 ·simp at h
theorem awe (E:TypeId) (n:Nat) (z:PV) (zs:Array Value) (hz:zs.size=Γ.P.cellsOf E) (hne:0<Γ.P.cellsOf E) (hr:Rep Γ.P D w E z zs.toList):ax6 Γ.P D w E (List.replicate n z) ((Array.range (n*Γ.P.cellsOf E)).map (zs[·%zs.size]!)).toList:=by
 have hget:∀ j,j<n*Γ.P.cellsOf E->((Array.range (n*Γ.P.cellsOf E)).map (zs[·%zs.size]!)).toList[j]?=zs.toList[j%Γ.P.cellsOf E]?:=by
  intro j hj
  have hm:j%Γ.P.cellsOf E<zs.size:=by rw [hz];exact Nat.mod_lt _ hne
  rw [Array.toList_map,List.getElem?_map]
  have:(Array.range (n*Γ.P.cellsOf E)).toList[j]?=some j:=by simp [hj]
  rw [this]
  rw [<-hz] at hm ⊢
  simp only [Option.map_some]
  rw [getElem!_pos zs _ (by rw [hz];rw [hz] at hm;exact hm)]
  simp [hz▸hm]
 refine ⟨by simp,fun c hc=>?_,fun i x hi=>?_⟩
 ·obtain ⟨j,hj,rfl⟩:=List.mem_iff_getElem.1 hc
  have hj':j<n*Γ.P.cellsOf E:=by simpa using hj
  have:=hget j hj'
  rw [List.getElem?_eq_getElem hj] at this
  exact hr.oneCell _ (List.mem_iff_getElem?.2 ⟨_,this.symm⟩)
 ·have hi':=(List.getElem?_eq_some_iff.1 hi)
  obtain ⟨hlt,hx⟩:=hi'
  simp at hlt
  simp at hx
  subst hx
  have hmul:(i+1)*Γ.P.cellsOf E<=n*Γ.P.cellsOf E:=Nat.mul_le_mul_right _ (by omega)
  rw [Nat.add_mul] at hmul
  have e:((((Array.range (n*Γ.P.cellsOf E)).map (zs[·%zs.size]!)).toList.drop (i*Γ.P.cellsOf E)).take (Γ.P.cellsOf E))=zs.toList:=by
   apply List.ext_getElem?
   intro j
   by_cases hj:j<Γ.P.cellsOf E
   ·rw [List.getElem?_take_of_lt hj,List.getElem?_drop,hget _ (by omega),Nat.mul_comm i,Nat.mul_add_mod,Nat.mod_eq_of_lt hj]
   ·rw [List.getElem?_eq_none (by simp;omega),List.getElem?_eq_none (by simp [hz];omega)]
  rw [e];exact hr
theorem aky (hw:WRel Γ D ow μ st w) (T:TypeId) (n:Nat) (ps:List (Nat×SV)) (vs:Array (Nat×Value)) (v:SV) (hl:ps.length=vs.size) (hall:∀ (m i:Nat) (s:SV) (j:Nat) (u:Value),ps[m]?=some (i,s)->vs[m]?=some (j,u)->i=j/\SRep Γ.P D w ow μ st s u) (h:ach Γ.P T n ps=.val true v):
 ∃ u w',(Instr.buildSlice T n vs).run Γ.P w=.ok u w'/\OpRes Γ D ow μ st w (.ok (.value u) w') v st:=by
 unfold ach at h
 split at h
 ·rename_i E hT
  cases hc:(ab5 Γ.P E&&isOf Γ.P E (abd Γ.P 12 E)&&!(Nat.beq (Γ.P.cellsOf E) 0)&&Nat.ble (n*Γ.P.cellsOf E) 4096&&ps.all (aen Γ.P n E)) with
  | false=>rw [hc] at h;simp at h
  | true=>
   rw [hc] at h
   simp only [cond_true,Ac.val.injEq,true_and] at h;subst h
   simp only [Bool.and_eq_true,Bool.not_eq_true'] at hc
   obtain ⟨⟨⟨⟨c1,c2⟩,c3⟩,c4⟩,c5⟩:=hc
   have hne:0<Γ.P.cellsOf E:=by
    rcases Nat.eq_zero_or_pos (Γ.P.cellsOf E) with h0 | h0
    ·rw [h0] at c3;cases c3
    ·exact h0
   have hsmall:n*Γ.P.cellsOf E<=4096:=Nat.le_of_ble_eq_true c4
   obtain ⟨inf,z,hi,hiz,his,hzs,hze,hzr,hzo⟩:=abq (Γ:=Γ) (D:=D) (ow:=ow) (μ:=μ) (st:=st) (w:=w) c1
   have hzrep:=aba hzr E c2
   have hrow:=awe (Γ:=Γ) (D:=D) (w:=w) E n (toPV (abd Γ.P 12 E)) z.cells hzs hne hzrep
   have hscal:aaj Γ.P E=true∨Γ.P.cellsOf E=1:=by
    cases ha:aaj Γ.P E with
    | true=>exact Or.inl rfl
    | false=>obtain ⟨u,hu⟩:=hzrep.single ha;right;rw [<-hzs];have:=congrArg List.length hu;simpa using this
   obtain ⟨cells',r1,r2,r3⟩:=agm (Γ:=Γ) (D:=D) (w:=w) (ow:=ow) (μ:=μ) (st:=st) E n ps vs.toList _ _ (by simpa using hl) (fun m i s j u h1 h2=>hall m i s j u h1 (by simpa using h2)) (fun p hp=>List.all_eq_true.1 c5 p hp)
    (fun p hp v hv=>by
     have hf:=List.all_eq_true.1 c5 p hp
     simp only [aen,Bool.and_eq_true] at hf
     have hr:=aba hv E hf.2
     rcases hscal with ha | h1
     ·exact hr.aggLen ha
     ·cases ha:aaj Γ.P E with
      | true=>exact hr.aggLen ha
      | false=>obtain ⟨u,hu⟩:=hr.single ha;rw [hu,h1];rfl) (by simp) hrow
   obtain ⟨e1,e2,e3⟩:=r3
   refine ⟨.slice (some ⟨w.heap.size,0,none⟩) n n,w.alloc (.cells cells' E),?_,?_⟩
   ·have hlim:¬(n*Γ.P.cellsOf E>2^24):=by omega
    simp only [Instr.buildSlice,Sem.run_bind,run_underlying hT,Result.andThen_ok,aa3 hi his]
    rw [if_neg hlim]
    by_cases h0:n*Γ.P.cellsOf E=0
    ·rw [if_pos h0]
     have r1':Instr.fill (fun i=>some (i*Γ.P.cellsOf E,Γ.P.cellsOf E)) ((Array.range (n*Γ.P.cellsOf E)).map ((#[]:Array Value)[·%(#[]:Array Value).size]!)) vs.toList=some cells':=by
      have hz0:∀ f g:Nat->Value,(Array.range 0).map f=(Array.range 0).map g:=fun f g=>by apply Array.ext';simp
      rw [<-r1,h0]
      exact congrArg (fun c=>Instr.fill _ c vs.toList) (hz0 _ _)
     simp only [pure_bind,r1']
     simp [newRow]
    ·rw [if_neg h0]
     simp only [pure_bind,Sem.run_bind,zeroValue,typeInfo,run_program,Result.andThen_ok,hi,Sem.run_pure,hiz,r1]
     simp [newRow]
   ·have hlen:(ac5 (List.replicate n (toPV (abd Γ.P 12 E))) ps).length=n:=r2
    have g:=Grew.alloc w (.cells cells' E)
    refine OpRes.grew hw (D':=fun b o=>D b o∨(b=w.heap.size/\o<cells'.toList.length)) rfl g (fun b o d=>Or.inl d) (fun b o d=>d.imp id (fun d=>⟨by omega,by rw [d.1];simp⟩)) (fun m=>?_)
    have hmk:=SliceRep.mk (P:=Γ.P) (D:=fun b o=>D b o∨(b=w.heap.size/\o<cells'.toList.length)) (w:=w.alloc (.cells cells' E)) (E:=E) (b:=w.heap.size) (off:=0) (cap:=n) (xs:=ac5 (List.replicate n (toPV (abd Γ.P 12 E))) ps) (L:=cells'.toList)
     (by omega) e1 (fun i x hx=>(e3 i x hx).mono m.dom m.keeps) (fun j u hj=>by
      have hlt:=(List.getElem?_eq_some_iff.1 hj).1
      refine ⟨Or.inr ⟨rfl,by omega⟩,?_⟩
      rw [Nat.zero_add,World.cell?_alloc_new]
      simpa using hj)
    rw [hlen] at hmk
    have hl:=SRep.lit (P:=Γ.P) (w:=w.alloc (.cells cells' E)) (ow:=ow) (μ:=μ) (st:=st) (by rw [hlen];exact hmk)
    rw [hlen] at hl
    exact hl
 ·simp at h
theorem apq (hw:WRel Γ D ow μ st w) (T:TypeId) (x y:SV) (xv yv:Value) (v:SV) (st':List BX) (hx:SRep Γ.P D w ow μ st x xv) (hy:SRep Γ.P D w ow μ st y yv) (h:aec Γ.P T x y st=.upd true v st'):
 ∃ u w',(Instr.makeSlice T xv yv).run Γ.P w=.ok u w'/\OpRes Γ D ow μ st w (.ok (.value u) w') v st':=by
 unfold aec at h
 split at h
 ·rename_i E m c hT
  cases hc:(ab5 Γ.P E&&isOf Γ.P E (abd Γ.P 12 E)&&!(Nat.beq (Γ.P.cellsOf E) 0)&&Nat.ble (Γ.P.bytesOf E) 512) with
  | false=>rw [hc] at h;cases h
  | true=>
   rw [hc] at h
   simp only [cond_true,Ac.upd.injEq,decide_eq_true_eq] at h
   obtain ⟨hb,rfl,rfl⟩:=h
   simp only [Bool.and_eq_true,Bool.not_eq_true'] at hc
   obtain ⟨⟨⟨c1,c0⟩,c2⟩,c3⟩:=hc
   have hne:0<Γ.P.cellsOf E:=by
    rcases Nat.eq_zero_or_pos (Γ.P.cellsOf E) with h0 | h0
    ·rw [h0] at c2;cases c2
    ·exact h0
   have hby:Γ.P.bytesOf E<=512:=Nat.le_of_ble_eq_true c3
   obtain ⟨inf,z,hi,hiz,his,hzs,hze,hzr,hzo⟩:=abq (Γ:=Γ) (D:=D) (ow:=ow) (μ:=μ) (st:=st) (w:=w) c1
   have hib:inf.bytes=Γ.P.bytesOf E:=by simp [Program.bytesOf,hi]
   cases hx;cases hy
   obtain ⟨m,rfl⟩:∃ n:Nat,m=(n:Int):=⟨m.toNat,by omega⟩
   obtain ⟨n,rfl⟩:∃ n:Nat,c=(n:Int):=⟨c.toNat,by omega⟩
   have hn:n<=68719476736:=by unfold aao at hb;omega
   have hbn:(inf.bytes:Int)*(n:Int)<=281474976710656:=by
    have h1:inf.bytes*n<=512*68719476736:=Nat.mul_le_mul (by rw [hib];exact hby) hn
    have h2:((inf.bytes*n:Nat):Int)<=281474976710656:=by omega
    rwa [Int.natCast_mul] at h2
   have hr:=run_make (P:=Γ.P) w T E inf z hT hi hiz .i64 .i64 m n (by omega) (by omega) hbn (by omega)
   simp only [Int.toNat_natCast] at hr
   have hzrep:=aba (hzr) E c0
   refine ⟨_,_,hr,?_⟩
   have hrow:=awe (Γ:=Γ) (D:=D) (w:=w) E n (toPV (abd Γ.P 12 E)) z.cells hzs hne hzrep
   have hmn:m<=n:=by omega
   have hcs:(madeCells z.cells (n*inf.size)).size=n*Γ.P.cellsOf E:=by rw [size_madeCells,his]
   have hnew:(w.alloc (.cells (madeCells z.cells (n*inf.size)) E)).heap[w.heap.size]?=some (.cells (madeCells z.cells (n*inf.size)) E (0,0)):=aar w _
   have hel:∀ (i:Nat) (x:PV),(List.replicate m (toPV (abd Γ.P 12 E)))[i]?=some x->Rep Γ.P D w E x (((madeCells z.cells (n*inf.size)).toList.drop (i*Γ.P.cellsOf E)).take (Γ.P.cellsOf E)):=by
    intro i x hx
    have hlt:i<m:=by have:=(List.getElem?_eq_some_iff.1 hx).1;simpa using this
    rw [List.getElem?_replicate,if_pos hlt] at hx
    have:=hrow.2.2 i x (by rw [List.getElem?_replicate,if_pos (by omega)];exact hx)
    rw [his];exact this
   obtain ⟨u1,u2⟩:=hw.newOwn (.cells (madeCells z.cells (n*inf.size)) E) (.arr E 0 (List.replicate m (toPV (abd Γ.P 12 E)))) (fun mv=>by
    refine Or.inr ⟨madeCells z.cells (n*inf.size),by rw [aae];exact hnew,by rw [aae,aae],fun o d=>?_,?_,fun i x hx=>(hel i x hx).mono mv.dom mv.keeps⟩
    ·rw [aae] at d;have:=hw.dlt _ _ d;omega
    ·rw [hcs];simpa using Nat.mul_le_mul_right _ hmn)
   refine ⟨_,_,_,_,_,Or.inl rfl,u1,u2,?_⟩
   have hk:(st++[BX.arr E 0 (List.replicate m (toPV (abd Γ.P 12 E)))])[st.length]?=some (.arr E 0 (List.replicate m (toPV (abd Γ.P 12 E)))):=by rw [List.getElem?_append_right (Nat.le_refl _)];simp
   have:=SRep.arr (P:=Γ.P) (D:=D) (w:=w.alloc (.cells (madeCells z.cells (n*inf.size)) E)) (ow:=upd ow w.heap.size (some st.length)) (μ:=upd μ st.length w.heap.size) (cap:=n) hk (by simpa using hmn) (by unfold maxLen;omega) (by rw [aae];exact hnew) (by rw [aae,aae]) hcs.symm
   rw [aae] at this
   simpa using this
 ·cases h
end
end Go.Ab
