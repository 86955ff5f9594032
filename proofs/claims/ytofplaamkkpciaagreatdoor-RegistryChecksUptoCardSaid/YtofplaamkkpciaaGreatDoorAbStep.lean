/- One operation: what the evaluator says of it, the model does. -/
import Derived.Test.YtofplaamkkpciaaGreatDoorAbBuild
set_option linter.unusedVariables false
set_option linter.unusedSimpArgs false
set_option linter.unnecessarySimpa false
namespace Go.Ab
open Go
section
variable{Γ:Ctx}{D:Dom}{ow:Own}{μ:Nat->Nat}{st:List BX}{w:World}{η:Operand->Value}{ρ ρt ρf:Operand->SV}
theorem OpRes.lift{r:Result Next}{v:SV}{st':List BX}{s:Sem Value}{u:Value}{w':World}(o:s.run Γ.P w=.ok u w')(h:OpRes Γ D ow μ st w (.ok (.value u) w') v st')(m:r=(do pure (.value (<-s)):Sem Next).run Γ.P w):OpRes Γ D ow μ st w r v st':=by grind[Sem.run_bind,Result.andThen_ok,Sem.run_pure]
theorem OpRes.lift0(z:WRel Γ D ow μ st w){r:Result Next}{v:SV}{s:Sem Value}(h:∃u,s.run Γ.P w=.ok u w/\SRep Γ.P D w ow μ st v u)(t:r=(do pure (.value (<-s)):Sem Next).run Γ.P w):OpRes Γ D ow μ st w r v st:=by obtain⟨u,m,o⟩:=h;exact OpRes.lift m (OpRes.still z rfl o) t
theorem OpRes.liftU{r:Result Next}{v:SV}{st':List BX}{s:Sem Unit}{w':World}(o:s.run Γ.P w=.ok () w')(h:OpRes Γ D ow μ st w (.ok .skip w') v st')(m:r=(do s;pure .skip:Sem Next).run Γ.P w):OpRes Γ D ow μ st w r v st':=by grind[Sem.run_bind,Result.andThen_ok,Sem.run_pure]
theorem aw3{b:Bool}{x:Ac}{v:SV}(h:x≠.val true v):(bif b then x else .fail)≠.val true v:=by grind
theorem aof(P:Program)(st:List BX)(T:TypeId)(x y:SV)(c:Bool)(v:SV):acy P st T x y≠.val c v:=by unfold acy;grind
theorem aog(P:Program)(st:List BX)(T:TypeId)(x y:SV)(c:Bool)(v:SV):acq P st T x y≠.val c v:=by unfold acq;intro h;simp only[As]at h;grind[aof]
theorem apo(P:Program)(st:List BX)(T:TypeId)(x:SV)(c:Bool)(v:SV):afc P st T x≠.val c v:=by unfold afc;grind
theorem afk(P:Program)(T:TypeId)(st:List BX)(a x v:SV):ad8 P T st a x≠.val true v:=by unfold ad8;grind
theorem arv(P:Program)(T:TypeId)(st:List BX)(a x v:SV):aep P T st a x≠.val true v:=by
 intro h;unfold aep at h;split at h
 ·split at h
  ·split at h
   ·simp only[As]at h;grind[afk]
   ·cases h
  grind[afk]
 grind[afk]
theorem afi(P:Program)(T:TypeId)(st:List BX)(m k x v:SV):ab4 P T st m k x≠.val true v:=by unfold ab4;grind
theorem aly(P:Program)(T:TypeId)(st:List BX)(m k v:SV):acn P T st m k≠.val true v:=by unfold acn;grind
theorem ajx(P:Program)(T:TypeId)(st:List BX)(m k x v:SV):aca P T st m k x≠.val true v:=by unfold aca;grind
theorem ax6(m:∀x,SRep Γ.P D w ow μ st (ρ x) (η x))(ps:Array (Nat×Operand)):(ps.toList.map λ(i,x)=>(i,ρ x)).length=(ps.map λ(i,x)=>(i,η x)).size/\
 ∀(n i:Nat)(s:SV)(j:Nat)(u:Value),(ps.toList.map λ(i,x)=>(i,ρ x))[n]?=some (i,s)->(ps.map λ(i,x)=>(i,η x))[n]?=some (j,u)->i=j/\SRep Γ.P D w ow μ st s u:=by
 grind
theorem a0r(z:Bool):∀(ss:List SV)(o:List Value)(k:IntKind)(a n:Int),ss.length=o.length->(∀(i:Nat)(s:SV)(u:Value),ss[i]?=some s->o[i]?=some u->SRep Γ.P D w ow μ st s u)->ajg z a ss=some n->
 (o.foldlM (if z then Builtin.max2 else Builtin.min2) (.int k a):Sem Value).run Γ.P w=.ok (.int k n) w:=by
 intro ss
 induction ss with
 |nil=>
  intro o k a n t _ h
  have:o=[]:=A5 (by grind)
  subst this
  simp[ajg]at h;subst h
  simp
 |cons x r J=>
  intro o k a n t m h
  cases o with
  |nil=>simp at t
  |cons u q=>
   have G:=m 0 x u rfl rfl
   cases x with
   |int O b=>
    generalize M:u=uu at G
    cases G
    simp only[ajg]at h
    have:=J q k _ n (by simpa using t) (λi s v H I=>m (i+1) s v (by simpa using H) (by simpa using I)) h
    cases z
    ·simp only[Af,A3,A9]at this ⊢;grind[Builtin.min2]
    ·simp only[Ad,A8]at this ⊢;simp only[List.foldlM_cons,Builtin.max2,pure_bind];exact this
   |_=>simp[ajg]at h
theorem an9(t:Bool)(ss:List SV)(o:List Value)(z:ss.length=o.length)(m:∀(i:Nat)(s:SV)(u:Value),ss[i]?=some s->o[i]?=some u->SRep Γ.P D w ow μ st s u)(v:SV)(h:aed t ss=.val true v):
 ∃(x:Value)(q:List Value)(u:Value),o=x::q/\(q.foldlM (if t then Builtin.max2 else Builtin.min2) x:Sem Value).run Γ.P w=.ok u w/\SRep Γ.P D w ow μ st v u:=by
 unfold aed at h
 split at h
 ·rename_i k a r;cases o with
  |nil=>simp at z
  |cons x q=>
   have G:=m 0 _ x rfl rfl;generalize M:x=O at G;cases G;split at h
   ·rename_i n J;simp only[Ac.val.injEq,true_and]at h;subst h;exact⟨_,q,_,rfl,a0r t r q k a n (by simpa using z) (λi s v H I=>m (i+1) s v (by simpa using H) (by simpa using I)) J,.int⟩
   ·cases h
 ·cases h
theorem afn(I:WRel Γ D ow μ st w)(G:∀x,SRep Γ.P D w ow μ st (ρ x) (η x))(o:Oper)
 (ab:∀c x y,o.op=.pick c x y->(η c=.bool true->SRep Γ.P D w ow μ st (ρt x) (η x))/\(η c=.bool false->SRep Γ.P D w ow μ st (ρf y) (η y)))
 (v:SV) (h:ac Γ.P o.op ρ ρt ρf st=.val true v):OpRes Γ D ow μ st w ((execOp η o).run Γ.P w) v st:=by
 cases z:o.op with
 |move x=>
  rw[z]at h;simp only[ac,Ac.val.injEq,true_and]at h;subst h
  exact OpRes.still I (by simp only[execOp,z,Sem.run_pure]) (G x)
 |assign x=>
  rw[z]at h;simp only[ac,Ac.val.injEq,true_and]at h;subst h
  exact OpRes.still I (by simp only[execOp,z,Sem.run_pure]) (G x)
 |pick c x y=>
  rw[z]at h;simp only[ac]at h
  obtain⟨M,O⟩:=ab c x y z
  split at h
  ·rename_i b p q hc J hy;simp only[Ac.val.injEq,true_and]at h;subst h;have aa:=G c;rw[hc]at aa;generalize H:η c=Y at aa;cases aa;have ak:(execOp η o).run Γ.P w=.ok (.value (if b then η x else η y)) w:=by
    simp only[execOp,z,H,asBool,Sem.run_bind,Sem.run_pure,Result.andThen_ok]
   rw[ak];cases b with
   |true=>have:=M H;rw[J]at this;exact OpRes.still I rfl this
   |false=>have:=O H;rw[hy]at this;exact OpRes.still I rfl this
  ·simp at h
 |build T ps=>
  rw[z]at h;simp only[ac]at h
  obtain⟨q1,q2⟩:=ax6 (Γ:=Γ) G ps
  exact OpRes.lift0 I (azm T _ _ v q1 q2 h) (by simp only[execOp,z])
 |buildSlice T n ps=>
  rw[z]at h;simp only[ac]at h
  obtain⟨q1,q2⟩:=ax6 (Γ:=Γ) G ps
  obtain⟨u,w',r1,r2⟩:=aoi I T n _ _ v q1 q2 h
  exact OpRes.lift r1 r2 (by simp only[execOp,z])
 |load T a=>
  rw[z]at h;simp only[ac]at h
  exact OpRes.lift0 I (a6a I T _ _ v (G a) h) (by simp only[execOp,z])
 |nilCheck x=>
  rw[z]at h;simp only[ac]at h
  have J:=G x
  split at h
  ·rename_i k p T V;simp only[Ac.val.injEq,true_and]at h;subst h;rw[V]at J;generalize H:η x=Y at J;have Z:=J;cases J;exact OpRes.still I (by simp only[execOp,z,H,Sem.run_pure]) Z
  ·rename_i T pv V;simp only[Ac.val.injEq,true_and]at h;subst h;rw[V]at J;generalize H:η x=Y at J;have Z:=J;cases J;exact OpRes.still I (by simp only[execOp,z,H,Sem.run_pure]) Z
  ·rename_i f cs V;simp only[Ac.val.injEq,true_and]at h;subst h;rw[V]at J;generalize H:η x=Y at J;have Z:=J;cases J;exact OpRes.still I (by simp only[execOp,z,H,Sem.run_pure]) Z
  ·rename_i k T V;simp only[Ac.val.injEq,true_and]at h;subst h;rw[V]at J;generalize H:η x=Y at J;have Z:=J;cases J;exact OpRes.still I (by simp only[execOp,z,H,Sem.run_pure]) Z
  ·rename_i k g i E p T V;cases hg:afz st k g with
   |false=>rw[hg]at h;cases h
   |true=>
    rw[hg]at h;simp only[Ad,Ac.val.injEq,true_and]at h;subst h;rw[V]at J;generalize H:η x=Y at J;have Z:=J;cases J with
    |arefOld hk ag _=>unfold afz at hg;rw[hk]at hg;have:=Ag hg;omega
    |aref=>exact OpRes.still I (by simp only[execOp,z,H,Sem.run_pure]) Z
  ·simp at h
 |binOp b T x y T2=>
  rw[z]at h;simp only[ac]at h
  unfold apg at h
  cases hN:(a9z y&&aov Γ.P T)with
  |false=>
   rw[hN]at h
   exact OpRes.lift0 I (a8g T b _ _ _ _ v (G x) (G y) h x y) (by simp only[execOp,z])
  |true=>
   rw[hN]at h
   simp only[Ad]at h
   simp only[Ai]at hN
   split at h
   ·rename_i hb;have hy:=G y;rw[hb]at hy;have H:η y=.nilIface:=by
     generalize η y=Y at hy;cases hy with
     |eif M _=>exact M rfl
    have aj:y=.const .nilIface:=by
     have:=hN.1;unfold a9z at this;split at this
     ·rfl
     ·cases this
    subst aj;have:=a0d (Γ:=Γ) (D:=D) (w:=w) T b _ _ v (G x) hN.2 h x;rw[<-H]at this;have e:(do eqGuard b T x (.const (η (.const .nilIface))) (η x) (η (.const .nilIface));binOp b T (η x) (η (.const .nilIface)):Sem Value)=(do eqGuard b T x (.const .nilIface) (η x) (η (.const .nilIface));binOp b T (η x) (η (.const .nilIface))):=by rw[H]
    rw[e]at this;exact OpRes.lift0 I this (by simp only[execOp,z])
   ·simp at h
 |unOp u T x=>
  rw[z]at h;simp only[ac]at h
  exact OpRes.lift0 I (bgc u _ _ v (G x) h) (by simp only[execOp,z])
 |convert s d x=>
  rw[z]at h;simp only[ac]at h
  exact OpRes.lift0 I (aw4 I s d _ _ v (G x) h) (by simp only[execOp,z])
 |makeFunc fn first cs=>
  rw[z]at h;simp only[ac]at h
  unfold ae3 at h
  split at h
  ·rename_i f;simp only[Ac.val.injEq,true_and]at h;subst h;refine OpRes.still I (u:=.func (.func f) (first.map η) (cs.map η)) (by simp[execOp,z,Instr.makeFunc]) (.fn (by simp) (by simp) (λi s v hi U=>?_));rw[<-List.map_append,Bf]at hi;rw[<-Array.map_append,Array.getElem?_map]at U;cases W:(first++cs)[i]? with
   |none=>rw[W]at U;simp at U
   |some p=>
    have:(first.toList++cs.toList)[i]?=some p:=by rw[<-Array.toList_append,Array.getElem?_toList];exact W
    rw[this]at hi;rw[W]at U;simp at hi U;subst hi;subst U;exact G p
  ·simp at h
 |slice T x lo hi mx=>
  rw[z]at h;simp only[ac]at h
  have af:∀s u,lo.map ρ=some s->lo.map η=some u->SRep Γ.P D w ow μ st s u:=by
   intro s u M O;cases lo with
   |none=>simp at M
   |some l=>simp at M O;subst M;subst O;exact G l
  cases U:a4f Γ.P T (ρ x) (lo.map ρ) (hi.map ρ) (mx.map ρ)with
  |some r=>
   rw[U]at h
   simp only[Ac.val.injEq]at h
   obtain⟨u,M,O⟩:=a7h T _ _ _ _ _ (lo.map η) (hi.map η) (mx.map η) r (G x) af (by simp) (by simp) (by simp) U h.1
   rw[h.2]at O
   exact OpRes.lift0 I ⟨u,M,O⟩ (by simp only[execOp,z])
  |none=>
  rw[U]at h
  refine OpRes.lift0 I (ars T _ _ _ _ _ (lo.map η) (hi.map η) (mx.map η) v (G x) af (by simp) ?_ (by simp) (by simp) h) (by simp only[execOp,z])
  ·intro s u M O;cases hi with
   |none=>simp at M
   |some l=>simp at M O;subst M;subst O;exact G l
 |fieldAddr S x i=>
  rw[z]at h;simp only[ac]at h
  exact OpRes.lift0 I (ap1 S i _ _ v (G x) h) (by simp only[execOp,z])
 |field S x i=>
  rw[z]at h;simp only[ac]at h
  exact OpRes.lift0 I (az1 S i _ _ v (G x) h) (by simp only[execOp,z])
 |indexAddr T x i=>
  rw[z]at h;simp only[ac]at h
  cases W:apd Γ.P T (au2 i) (ρ x) (ρ i)with
  |none=>rw[W]at h;exact OpRes.lift0 I (aqb T _ _ _ _ v (G x) (G i) h) (by simp only[execOp,z])
  |some r=>
   rw[W]at h
   simp only[Ac.val.injEq]at h
   obtain⟨u,M,O⟩:=aue T _ _ _ _ _ (G x) (G i) W
   rw[h.2]at O
   exact OpRes.lift0 I ⟨u,M,O⟩ (by simp only[execOp,z])
 |index T x i=>
  rw[z]at h;simp only[ac]at h
  exact OpRes.lift0 I (a0e T _ _ _ _ v (G x) (G i) h) (by simp only[execOp,z])
 |lookup T m k ok=>
  rw[z]at h;simp only[ac]at h
  exact OpRes.lift0 I (axw I T _ _ _ _ ok v (G m) (G k) h) (by simp only[execOp,z])
 |extract t i=>
  rw[z]at h;simp only[ac]at h
  have J:=G t
  unfold aii at h
  split at h
  ·rename_i vs V;split at h
   ·rename_i s X;simp only[Ac.val.injEq,true_and]at h;subst h;rw[V]at J;generalize H:η t=Y at J;cases J with
    |@tup _ us ai ae=>
     have ag:i<us.size:=by rw[ai];exact(A6.1 X).1
     have hu:us[i]?=some us[i]:=Array.getElem?_eq_getElem ag;exact OpRes.still I (u:=us[i]) (by simp[execOp,z,H,Instr.extract,hu]) (ae i _ _ X hu)
   ·simp at h
  ·rename_i b p c V;rw[V]at J;generalize H:η t=Y at J;cases J with
   |nx M O=>
    split at h
    ·simp only[Ac.val.injEq,true_and]at h;subst h;cases b with
     |true=>have:=M rfl;subst this;exact OpRes.still I (u:=.bool true) (by simp[execOp,z,H,Instr.extract]) .bool
     |false=>have:=O rfl;subst this;exact OpRes.still I (u:=.bool false) (by simp[execOp,z,H,Instr.extract]) .bool
    ·simp only[Ac.val.injEq]at h;obtain⟨hb,rfl⟩:=h;have:=M hb;subst this;exact OpRes.still I (u:=.int .i64 p) (by simp[execOp,z,H,Instr.extract]) .int
    ·simp only[Ac.val.injEq]at h;obtain⟨hb,rfl⟩:=h;have:=M hb;subst this;exact OpRes.still I (u:=.int .i32 c) (by simp[execOp,z,H,Instr.extract]) .int
    ·cases h
  ·simp at h
 |call c=>
  rw[z]at h
  simp only[ac]at h
  unfold aj3 at h
  split at h
  ·simp at h
  ·split at h<;>simp at h
  ·rename_i hc;split at h
   ·rename_i x T J hT;have ha:c.args=#[x]:=by rw[<-Array.toArray_toList (xs:=c.args),J]
    have ah:c.argTypes=#[T]:=by rw[<-Array.toArray_toList (xs:=c.argTypes),hT]
    refine OpRes.lift0 I (baq I T _ _ v (G x) h o.type) ?_;simp[execOp,z,resolve,hc,invoke,builtin,ha,ah]
   ·simp at h
  ·split at h
   ·exact absurd h (aw3 (aog _ _ _ _ _ _ _))
   ·simp at h
  ·split at h
   ·exact absurd h (apo _ _ _ _ _ _)
   ·simp at h
  ·rename_i hc;obtain⟨x,q,u,e1,e2,e3⟩:=an9 (Γ:=Γ) (D:=D) (w:=w) (ow:=ow) (μ:=μ) (st:=st) false _ (c.args.map η).toList (by simp) (λi s u M O=>by
    rw[Bf]at M;rw[Array.toList_map,Bf]at O;cases W:c.args.toList[i]? with
    |none=>rw[W]at M;cases M
    |some p=>rw[W]at M O;cases M;cases O;exact G p) v h
   refine OpRes.lift0 I ⟨u,e2,e3⟩ ?_;simp only[execOp,z,resolve,hc,invoke,builtin,Builtin.min_,Sem.run_bind,Sem.run_pure,Result.andThen_ok,e1];simp
  ·rename_i hc;obtain⟨x,q,u,e1,e2,e3⟩:=an9 (Γ:=Γ) (D:=D) (w:=w) (ow:=ow) (μ:=μ) (st:=st) true _ (c.args.map η).toList (by simp) (λi s u M O=>by
    rw[Bf]at M;rw[Array.toList_map,Bf]at O;cases W:c.args.toList[i]? with
    |none=>rw[W]at M;cases M
    |some p=>rw[W]at M O;cases M;cases O;exact G p) v h
   refine OpRes.lift0 I ⟨u,e2,e3⟩ ?_;simp only[execOp,z,resolve,hc,invoke,builtin,Builtin.max_,Sem.run_bind,Sem.run_pure,Result.andThen_ok,e1];simp
  ·simp at h
 |makeInterface T x=>
  rw[z]at h;simp only[ac,aiq]at h
  split at h
  ·cases h
  ·cases h
  ·rename_i d an hT;simp only[Ac.val.injEq,true_and]at h;subst h;refine OpRes.lift0 I (s:=Instr.makeInterface T (η x)) ⟨.iface T (η x),?_,.ifc (G x)⟩ (by simp only[execOp,z]);unfold Instr.makeInterface;simp only[Sem.run_bind,run_underlying hT,Result.andThen_ok];exact Sem.run_pure ..
 |panic x=>rw[z]at h;simp only[ac,aqz]at h;split at h<;>simp at h
 |alloc T=>
  rw[z]at h;simp only[ac,aic,As]at h;repeat' split at h
  all_goals cases h
 |box T x=>
  rw[z]at h;simp only[ac,awz,As]at h;repeat' split at h
  all_goals cases h
 |makeSlice T n c=>
  rw[z]at h;simp only[ac,adr,afg,As]at h;repeat' split at h
  all_goals cases h
 |store T a x=>rw[z]at h;simp only[ac]at h;exact absurd h (arv _ _ _ _ _ _)
 |insert T m k x=>rw[z]at h;simp only[ac]at h;exact absurd h (afi _ _ _ _ _ _ _)
 |mapUpdate T m k x=>rw[z]at h;simp only[ac]at h;exact absurd h (afi _ _ _ _ _ _ _)
 |mapEntry T m k=>rw[z]at h;simp only[ac]at h;exact absurd h (aly _ _ _ _ _ _)
 |entryStore T m k x=>rw[z]at h;simp only[ac]at h;exact absurd h (ajx _ _ _ _ _ _ _)
 |makeMap T r=>rw[z]at h;simp only[ac]at h;unfold aej at h;split at h<;>simp at h
 |range T x=>rw[z]at h;simp only[ac]at h;unfold aku at h;split at h<;>first|(simp at h;done)|(simp only[As]at h;split at h<;>simp at h)
 |next x b=>
  rw[z]at h;simp only[ac]at h;unfold aqt at h;repeat' split at h
  all_goals simp at h
 |entry x=>
  rw[z]at h;simp only[ac]at h
  have J:=G x
  unfold am0 at h
  split at h
  ·rename_i k V;split at h
   ·rename_i K E e es hk;simp only[Ac.val.injEq,true_and]at h;subst h;rw[V]at J;generalize H:η x=Y at J;cases J with
    |mitr _=>
     obtain⟨_,_,m,al,c0,am,q3,_,q5⟩:=I.obj k _ hk;obtain⟨r,ents,ad,kc,vc,rfl,a2,a3,a4,a5,a6,a7,a8,a9⟩:=q5 e rfl;refine OpRes.still I (u:=.tuple #[ad.key,ad.val]) ?_ (.tup rfl λi s v X U=>?_)
     ·simp[execOp,z,H,Instr.entry,getObj,Sem.run,q3,a3,a4,a5]
     ·match i,X,U with
      |0,X,U=>simp at X U;subst X;subst U;rw[a8];exact a6.ofPV
      |1,X,U=>simp at X U;subst X;subst U;rw[a9];exact a7.ofPV
   ·cases h
  ·cases h
 |_=>rw[z]at h;simp[ac]at h
end
end Go.Ab
namespace Go.Ab
open Go
section
variable{Γ:Ctx}{D:Dom}{ow:Own}{μ:Nat->Nat}{st:List BX}{w:World}{η:Operand->Value}{ρ ρt ρf:Operand->SV}
def aci(x:Ac):Prop:=∀c v s,x≠.upd c v s
def a7q(x:Ac):Prop:=∀f m,x≠.call f m
theorem aav{c:Bool}{v:SV}:aci (.val c v):=λ_ _ _ h=>by cases h
theorem aaj:aci .fail:=λ_ _ _ h=>by cases h
theorem bej(m:BinOp)(k:IntKind)(x y:Int):aci (a5s m k x y):=by cases m<;>first|exact aav|exact aaj
theorem bf0(m:BinOp)(x y:Bn):aci (a7b m x y):=by cases m<;>first|exact aav|exact aaj
theorem a8j(m:BinOp)(x y:Bool):aci (atc m x y):=by cases m<;>first|exact aav|exact aaj
theorem ack{b:Bool}{x:Ac}(h:aci x):aci (bif b then x else .fail):=by grind[aaj]
theorem bdl{b:Bool}{x:Ac}(h:aci x):aci (bif b then .fail else x):=by grind[aaj]
theorem a0s(m:BinOp)(x:SV):aci (ahn m x):=by
 unfold ahn;repeat' split
 all_goals(intro c v st' h;simp at h)
theorem a1s(P:Program)(m:BinOp)(T:TypeId)(x y:SV):aci (aev P m T x y):=by
 unfold aev;split
 ·refine ack ?_;grind[aav,aaj]
 ·exact aaj
theorem a1q(P:Program)(m:BinOp)(T:TypeId)(x y:SV):a7q (aev P m T x y):=by unfold aev;intro f o h;grind
theorem bde(P:Program)(m:BinOp)(T:TypeId)(x y:SV):aci (azj P m T x y):=by
 unfold azj;split
 ·split
  ·exact aav
  ·exact aav
  ·exact ack (bej _ _ _ _)
 ·exact bf0 _ _ _
 ·exact ack (a8j _ _ _)
 ·exact ack (by cases m<;>first|exact aav|exact aaj)
 ·exact ack (by cases m<;>first|exact aav|exact aaj)
 grind[a1s]
theorem bjc(m:UnOp)(x:SV):aci (unAc m x):=by unfold unAc;grind[aav,aaj]
theorem a8q(P:Program)(s d:TypeId)(x:SV):aci (apu P s d x):=by unfold apu;refine ack ?_;split<;>first|exact aav|exact aaj|exact ack aav
theorem azv(P:Program)(st:List BX)(s d:TypeId)(x:SV):aci (afp P st s d x):=by
 unfold afp;split
 ·split
  ·exact ack aav
  ·exact aaj
 all_goals grind[a8q]
theorem aze(P:Program)(st:List BX)(T:TypeId)(x y:SV)(f:FuncId)(args:List SV):acq P st T x y≠.call f args:=by
 intro h;unfold acq acy at h;simp only[As]at h;repeat' split at h
 all_goals grind
theorem azf(P:Program)(st:List BX)(T:TypeId)(x y v:SV):acq P st T x y≠.pan v:=by
 intro h;unfold acq acy at h;simp only[As]at h;repeat' split at h
 all_goals grind
theorem a4t(P:Program)(T:TypeId)(ps:List (Nat×SV)):aci (aki P T ps):=by
 unfold aki;split
 ·exact ack aav
 ·refine ack ?_;grind[aav,aaj]
 ·exact aaj
theorem apl(P:Program)(T:TypeId)(n:Nat)(ps:List (Nat×SV)):aci (ac2 P T n ps):=by
 unfold ac2;split
 ·exact aav
 ·split
  ·exact ack aav
  ·exact aaj
theorem bav(P:Program)(T:TypeId)(st:List BX)(a:SV):aci (ahy P T st a):=by intro c v s h;unfold ahy at h;grind
theorem asd(P:Program)(st:List BX)(S:TypeId)(i:Nat)(a:SV):aci (ac3 P st S i a):=by
 unfold ac3;split
 ·split
  ·refine bdl ?_;split<;>first|exact ack aav|exact aaj
  ·exact aaj
 ·exact aaj
theorem a5g(P:Program)(S:TypeId)(i:Nat)(a:SV):aci (akn P S i a):=by
 unfold akn;split
 ·split
  ·refine ack ?_;split
   ·exact ack aav
   ·refine ack ?_;grind[aav,aaj]
   ·exact aaj
  ·exact aaj
 ·exact aaj
theorem asf(P:Program)(T:TypeId)(st:List BX)(x i:SV):aci (ac4 P T st x i):=by intro c v s h;unfold ac4 at h;grind
theorem a5r(P:Program)(T:TypeId)(x i:SV):aci (ako P T x i):=by unfold ako;split<;>first|exact aav|exact ack aav|exact aaj
theorem a6z(P:Program)(T:TypeId)(x:SV)(o m t:Option SV):aci (ai2 P T x o m t):=by
 unfold ai2;split
 ·exact aaj
 ·split
  ·exact aav
  ·split
   ·grind[aav,aaj]
   ·split
    ·split<;>first|exact ack aav|exact aaj
    ·exact aaj
   ·exact aaj
theorem a0m(P:Program)(T:TypeId)(st:List BX)(m k:SV)(o:Bool):aci (ac6 P T st m k o):=by
 unfold ac6;split
 ·refine ack ?_;split
  ·exact ack aav
  ·split
   ·exact ack aav
   ·exact aaj
  ·exact aaj
 ·exact aaj
theorem bet(P:Program)(T:TypeId)(st:List BX)(x:SV):aci (au7 P T st x):=by unfold au7;grind[aav,aaj]
theorem aqs(m:Bool)(ss:List SV):aci (aed m ss):=by unfold aed;grind[aav,aaj]
theorem aqq(m:Bool)(ss:List SV):a7q (aed m ss):=by unfold aed;intro f o h;grind
theorem avb(fn:Fn)(first cs:List SV):aci (ae3 fn first cs):=by unfold ae3;grind[aav,aaj]
theorem bdm{b:Bool}{x:Ac}{v:SV}{s:List BX}(h:(bif b then x else .fail)=.upd true v s):b=true/\x=.upd true v s:=by grind
theorem anu(H:WRel Γ D ow μ st w)(G:∀x,SRep Γ.P D w ow μ st (ρ x) (η x))(o:Oper)(v:SV)(st':List BX)(h:ac Γ.P o.op ρ ρt ρf st=.upd true v st'):OpRes Γ D ow μ st w ((execOp η o).run Γ.P w) v st':=by
 cases z:o.op with
 |alloc T=>grind[ac,azd,OpRes.lift,execOp]
 |box T x=>grind[ac,azl,OpRes.lift,execOp]
 |makeSlice T n c=>
  rw[z]at h;simp only[ac]at h;cases M:bab n with
  |true=>rw[M]at h;simp only[Ad]at h;grind[aql,OpRes.lift,execOp]
  |false=>rw[M]at h;simp only[Af]at h;grind[avd,OpRes.lift,execOp]
 |store T a x=>grind[ac,av9,OpRes.liftU,execOp]
 |insert T m k x=>grind[ac,air,OpRes.liftU,execOp]
 |mapUpdate T m k x=>grind[ac,air,OpRes.liftU,execOp]
 |mapEntry T m k=>grind[ac,asj,OpRes.lift,execOp]
 |entryStore T m k x=>grind[ac,aoj,OpRes.liftU,execOp]
 |makeMap T r=>
  rw[z]at h;simp only[ac]at h;unfold aej at h;split at h
  ·rename_i K E J;simp only[Ac.upd.injEq,true_and]at h;obtain⟨rfl,rfl⟩:=h;obtain⟨u,w',r1,r2⟩:=avc H T K E;grind[OpRes.lift,execOp]
  ·simp at h
 |call c=>
  rw[z]at h;simp only[ac]at h;unfold aj3 at h;split at h
  ·simp at h
  ·grind
  ·split at h
   ·exact absurd h (bet _ _ _ _ _ _ _)
   ·simp at h
  ·rename_i W;split at h
   ·rename_i x y T Y X J;obtain⟨O,U⟩:=bdm h;have:=Ag O;subst this;have V:c.args=#[x,y]:=by grind
    have I:c.argTypes=#[T,T]:=by grind
    obtain⟨u,w',r1,r2⟩:=ar7 H T o.type _ _ _ _ v st' (G x) (G y) U;grind[OpRes.lift,execOp,resolve,invoke,builtin]
   ·simp at h
  ·rename_i W;split at h
   ·rename_i x T X J;have V:c.args=#[x]:=by grind
    have I:c.argTypes=#[T]:=by grind
    obtain⟨u,w',r1,r2⟩:=azq H T o.type _ _ v st' (G x) h;grind[OpRes.lift,execOp,resolve,invoke,builtin]
   ·simp at h
  ·exact absurd h (aqs _ _ _ _ _)
  ·exact absurd h (aqs _ _ _ _ _)
  ·simp at h
 |move x=>grind[ac]
 |assign x=>grind[ac]
 |pick c x y=>grind[ac]
 |build T ps=>rw[z]at h;exact absurd h (a4t _ _ _ _ _ _)
 |buildSlice T n ps=>rw[z]at h;exact absurd h (apl _ _ _ _ _ _ _)
 |load T a=>rw[z]at h;exact absurd h (bav _ _ _ _ _ _ _)
 |nilCheck x=>rw[z]at h;simp only[ac,As]at h;grind
 |binOp b T x y Z=>
  rw[z]at h;simp only[ac,apg,As]at h;split at h
  ·split at h
   ·exact absurd h (a0s _ _ _ _ _)
   ·simp at h
  ·exact absurd h (bde _ _ _ _ _ _ _ _)
 |unOp u T x=>rw[z]at h;exact absurd h (bjc _ _ _ _ _)
 |convert s d x=>rw[z]at h;exact absurd h (azv _ _ _ _ _ _ _ _)
 |makeFunc fn first cs=>rw[z]at h;exact absurd h (avb _ _ _ _ _ _)
 |slice T x lo hi mx=>
  rw[z]at h;simp only[ac]at h;split at h
  ·cases h
  ·exact absurd h (a6z _ _ _ _ _ _ _ _ _)
 |fieldAddr S x i=>rw[z]at h;exact absurd h (asd _ _ _ _ _ _ _ _)
 |field S x i=>rw[z]at h;exact absurd h (a5g _ _ _ _ _ _ _)
 |indexAddr T x i=>
  rw[z]at h;simp only[ac]at h;split at h
  ·cases h
  ·exact absurd h (asf _ _ _ _ _ _ _ _)
 |index T x i=>rw[z]at h;exact absurd h (a5r _ _ _ _ _ _ _)
 |lookup T m k ok=>rw[z]at h;exact absurd h (a0m _ _ _ _ _ _ _ _ _)
 |extract t i=>rw[z]at h;simp only[ac]at h;unfold aii at h;grind
 |range T x=>grind[ac,a01,OpRes.lift,execOp]
 |next x b=>rw[z]at h;simp only[ac]at h;obtain⟨u,w',r1,r2⟩:=a6f H _ _ b o.type v st' (G x) h;grind[OpRes.lift,execOp]
 |entry x=>rw[z]at h;simp only[ac]at h;unfold am0 at h;grind
 |makeInterface T x=>grind[ac,aiq]
 |panic x=>rw[z]at h;simp only[ac,aqz]at h;grind
 |_=>rw[z]at h;simp[ac]at h
theorem ab9(U:∀x,SRep Γ.P D w ow μ st (ρ x) (η x))(af:∀f,η (.func f)=.func (.func f) #[] #[])(o:Oper)(f:FuncId)(args:List SV)(h:ac Γ.P o.op ρ ρt ρf st=.call f args):
 ∃G:Array Value,(execOp η o).run Γ.P w=(callFunc f G).run Γ.P w/\G.size=args.length/\∀(i:Nat)(s:SV)(v:Value),args[i]?=some s->G[i]?=some v->SRep Γ.P D w ow μ st s v:=by
 have H:∀xs:Array Operand,∀(i:Nat)(s:SV)(v:Value),(xs.toList.map ρ)[i]?=some s->(xs.map η)[i]?=some v->SRep Γ.P D w ow μ st s v:=by grind
 cases z:o.op with
 |call c=>
  rw[z]at h;simp only[ac]at h
  unfold aj3 at h
  split at h
  ·rename_i g X;simp only[Ac.call.injEq]at h;obtain⟨rfl,rfl⟩:=h;refine⟨c.args.map η,?_,by simp,H c.args⟩;grind[execOp,resolve,Deferred.ofValue,invoke]
  ·rename_i x ad X;have O:=U x;split at h
   ·rename_i g n I Z;simp only[Ac.call.injEq]at h;obtain⟨rfl,rfl⟩:=h;rw[Z]at O;generalize Y:η x=cv at O;cases O with
    |@fn _ _ _ J vs hn ae V=>
     have ab:n<=I.length:=by grind
     have M:(I.take n).length=J.size:=by grind
     refine⟨J++c.args.map η++vs,?_,by grind,λi s v hs W=>?_⟩
     ·grind[execOp,resolve,Deferred.ofValue,invoke]
     ·rw[Array.append_assoc]at W;by_cases hi:i<J.size
      ·all_goals grind
      ·rw[A4 (by omega),M]at hs;rw[Array.getElem?_append_right (by omega)]at W;by_cases aa:i-J.size<c.args.size;all_goals grind
   ·simp at h
  ·split at h
   ·unfold au7 at h;grind
   ·simp at h
  ·split at h
   ·simp only[As]at h;grind[absurd,aze]
   ·simp at h
  ·split at h
   ·simp only[afc,As]at h;grind
   ·simp at h
  ·exact absurd h (aqq _ _ _ _)
  ·exact absurd h (aqq _ _ _ _)
  ·simp at h
 |move x=>grind[ac]
 |assign x=>grind[ac]
 |pick c x y=>grind[ac]
 |alloc T=>rw[z]at h;simp only[ac,aic,As]at h;grind
 |box T x=>rw[z]at h;simp only[ac,awz,As]at h;grind
 |makeSlice T n c=>rw[z]at h;simp only[ac,adr,afg,As]at h;all_goals grind
 |store T a x=>
  rw[z]at h;simp only[ac,aep,ad8,As]at h;repeat' split at h
  all_goals grind
 |insert T m k x=>rw[z]at h;simp only[ac,ab4,As]at h;grind
 |mapUpdate T m k x=>rw[z]at h;simp only[ac,ab4,As]at h;grind
 |mapEntry T m k=>rw[z]at h;simp only[ac,acn,As]at h;grind
 |entryStore T m k x=>rw[z]at h;simp only[ac,aca,As]at h;grind
 |makeMap T r=>rw[z]at h;simp only[ac,aej]at h;grind
 |build T ps=>rw[z]at h;simp only[ac,aki,As]at h;grind
 |buildSlice T n ps=>rw[z]at h;simp only[ac,ac2,As]at h;grind
 |load T a=>rw[z]at h;simp only[ac,ahy,As]at h;grind
 |nilCheck x=>rw[z]at h;simp only[ac,As]at h;grind
 |binOp b T x y T2=>
  rw[z]at h;simp only[ac,apg,ahn,azj,As]at h;repeat' split at h
  all_goals first
   |(exact absurd h (a1q _ _ _ _ _ _ _))
   |(simp at h;done)
   |(cases b<;>simp[a5s]at h;done)
   |(cases b<;>simp[a7b]at h;done)
   |(cases b<;>simp[atc]at h;done)
   |(cases b<;>simp[ae4]at h;done)
 |unOp u T x=>rw[z]at h;simp only[ac,unAc]at h;grind
 |convert s d x=>rw[z]at h;simp only[ac,afp,apu,As]at h;grind
 |makeFunc fn first cs=>rw[z]at h;simp only[ac,ae3]at h;all_goals grind
 |slice T x lo hi mx=>
  rw[z]at h;simp only[ac,ai2,As]at h;repeat' split at h
  all_goals grind
 |fieldAddr S x i=>rw[z]at h;simp only[ac,ac3,As]at h;grind
 |field S x i=>rw[z]at h;simp only[ac,akn,As]at h;grind
 |indexAddr T x i=>rw[z]at h;simp only[ac,ac4,As]at h;grind
 |index T x i=>rw[z]at h;simp only[ac,ako,As]at h;grind
 |lookup T m k ok=>
  rw[z]at h;simp only[ac,ac6,As]at h;repeat' split at h
  all_goals simp at h
 |extract t i=>rw[z]at h;simp only[ac]at h;unfold aii at h;split at h<;>first|(simp at h;done)|(split at h<;>simp at h)
 |range T x=>rw[z]at h;simp only[ac]at h;unfold aku at h;split at h<;>first|(simp at h;done)|(simp only[As]at h;split at h<;>simp at h)
 |next x b=>
  rw[z]at h;simp only[ac]at h;unfold aqt at h;repeat' split at h
  all_goals simp at h
 |entry x=>
  rw[z]at h;simp only[ac]at h;unfold am0 at h;repeat' split at h
  all_goals simp at h
 |makeInterface T x=>rw[z]at h;simp only[ac,aiq]at h;split at h<;>simp at h
 |panic x=>rw[z]at h;simp only[ac,aqz]at h;split at h<;>simp at h
 |_=>rw[z]at h;simp[ac]at h
theorem a1r(P:Program)(m:BinOp)(T:TypeId)(x y v:SV):aev P m T x y≠.pan v:=by
 unfold aev;simp only[As];repeat' split
 all_goals simp
theorem aqr(m:Bool)(ss:List SV)(v:SV):aed m ss≠.pan v:=by
 unfold aed;split
 ·split<;>simp
 ·simp
theorem awr(I:∀x,SRep Γ.P D w ow μ st (ρ x) (η x))(o:Oper)(s:SV)(h:ac Γ.P o.op ρ ρt ρf st=.pan s):∃u,(execOp η o).run Γ.P w=.halt (.panic u) w/\SRep Γ.P D w ow μ st s u:=by
 cases z:o.op with
 |panic x=>
  rw[z]at h;simp only[ac,aqz]at h;split at h
  ·rename_i T y M;simp only[Ac.pan.injEq]at h;subst h;have G:=I x;rw[M]at G;generalize H:η x=J at G;refine⟨J,?_,G⟩;cases G with
   |ifc G=>simp[execOp,z,H,Instr.panic,goPanic]
  ·cases h
 |call c=>
  rw[z]at h;simp only[ac]at h;unfold aj3 at h;split at h
  ·cases h
  ·split at h<;>cases h
  ·split at h
   ·unfold au7 at h;split at h<;>first|(simp at h;done)|(split at h<;>simp at h)
   ·cases h
  ·split at h
   ·simp only[As]at h;split at h
    ·exact absurd h (azf _ _ _ _ _ _)
    ·cases h
   ·cases h
  ·split at h
   ·simp only[afc,As]at h;repeat' split at h
    all_goals cases h
   ·cases h
  ·exact absurd h (aqr _ _ _)
  ·exact absurd h (aqr _ _ _)
  ·cases h
 |move x=>rw[z]at h;simp[ac]at h
 |assign x=>rw[z]at h;simp[ac]at h
 |pick c x y=>rw[z]at h;simp only[ac]at h;split at h<;>simp at h
 |alloc T=>
  rw[z]at h;simp only[ac,aic,As]at h;repeat' split at h
  all_goals cases h
 |box T x=>
  rw[z]at h;simp only[ac,awz,As]at h;repeat' split at h
  all_goals cases h
 |makeSlice T n c=>
  rw[z]at h;simp only[ac,adr,afg,As]at h;repeat' split at h
  all_goals cases h
 |store T a x=>
  rw[z]at h;simp only[ac,aep,ad8,As]at h;repeat' split at h
  all_goals simp at h
 |insert T m k x=>
  rw[z]at h;simp only[ac,ab4,As]at h;repeat' split at h
  all_goals simp at h
 |mapUpdate T m k x=>
  rw[z]at h;simp only[ac,ab4,As]at h;repeat' split at h
  all_goals simp at h
 |mapEntry T m k=>
  rw[z]at h;simp only[ac,acn,As]at h;repeat' split at h
  all_goals simp at h
 |entryStore T m k x=>
  rw[z]at h;simp only[ac,aca,As]at h;repeat' split at h
  all_goals simp at h
 |makeMap T r=>rw[z]at h;simp only[ac,aej]at h;split at h<;>simp at h
 |build T ps=>
  rw[z]at h;simp only[ac,aki,As]at h;repeat' split at h
  all_goals simp at h
 |buildSlice T n ps=>
  rw[z]at h;simp only[ac,ac2,As]at h;repeat' split at h
  all_goals simp at h
 |load T a=>
  rw[z]at h;simp only[ac,ahy,As]at h;repeat' split at h
  all_goals simp at h
 |nilCheck x=>
  rw[z]at h;simp only[ac,As]at h;repeat' split at h
  all_goals cases h
 |binOp b T x y O=>
  rw[z]at h;simp only[ac,apg,ahn,azj,As]at h;repeat' split at h
  all_goals first
   |(exact absurd h (a1r _ _ _ _ _ _))
   |(simp at h;done)
   |(cases b<;>simp[a5s]at h;done)
   |(cases b<;>simp[a7b]at h;done)
   |(cases b<;>simp[atc]at h;done)
   |(cases b<;>simp[ae4]at h;done)
 |unOp u T x=>
  rw[z]at h;simp only[ac,unAc]at h;repeat' split at h
  all_goals simp at h
 |convert s d x=>
  rw[z]at h;simp only[ac,afp,apu,As]at h;repeat' split at h
  all_goals simp at h
 |makeFunc fn first cs=>rw[z]at h;simp only[ac,ae3]at h;split at h<;>simp at h
 |slice T x V U W=>
  rw[z]at h;simp only[ac,ai2,As]at h;repeat' split at h
  all_goals simp at h
 |fieldAddr S x i=>
  rw[z]at h;simp only[ac,ac3,As]at h;repeat' split at h
  all_goals simp at h
 |field S x i=>
  rw[z]at h;simp only[ac,akn,As]at h;repeat' split at h
  all_goals simp at h
 |indexAddr T x i=>
  rw[z]at h;simp only[ac,ac4,As]at h;repeat' split at h
  all_goals simp at h
 |index T x i=>
  rw[z]at h;simp only[ac,ako,As]at h;repeat' split at h
  all_goals simp at h
 |lookup T m k X=>
  rw[z]at h;simp only[ac,ac6,As]at h;repeat' split at h
  all_goals simp at h
 |extract t i=>rw[z]at h;simp only[ac]at h;unfold aii at h;split at h<;>first|(simp at h;done)|(split at h<;>simp at h)
 |range T x=>rw[z]at h;simp only[ac]at h;unfold aku at h;split at h<;>first|(simp at h;done)|(simp only[As]at h;split at h<;>simp at h)
 |next x b=>
  rw[z]at h;simp only[ac]at h;unfold aqt at h;repeat' split at h
  all_goals simp at h
 |entry x=>
  rw[z]at h;simp only[ac]at h;unfold am0 at h;repeat' split at h
  all_goals simp at h
 |makeInterface T x=>rw[z]at h;simp only[ac,aiq]at h;split at h<;>simp at h
 |_=>rw[z]at h;simp[ac]at h
theorem a1v(X:WRel Γ D ow μ st w){η:Operand->Value}{ρ:Operand->SV}(G:∀x,SRep Γ.P D w ow μ st (ρ x) (η x))(o:Oper){b:Bool}{v:SV}{st':List BX}(h:awb Γ.P o.op ρ st=some (true,b,v,st')):OpRes Γ D ow μ st w ((execOp η o).run Γ.P w) (bif b then v else .undef) st':=by
 unfold awb at h;split at h
 ·rename_i T x Y H;split at h
  ·rename_i E k g M ik n J V U;cases m:ad1 st k g E with
   |none=>rw[m]at h;cases h
   |some xs=>
    rw[m]at h;simp only at h;cases t:(Nat.beq E M&&!(Nat.beq (Γ.P.cellsOf E) 0))with
    |false=>rw[t]at h;cases h
    |true=>
     rw[t]at h;simp only[Ad,Aj,Prod.mk.injEq,Ax]at h;obtain⟨⟨I,W⟩,rfl,rfl,rfl⟩:=h;simp only[Ai,Bool.not_eq_true']at t;have:=Ag t.1;subst this;have z:Γ.P.cellsOf E≠0:=λe=>by rw[e]at t;cases t.2
     have r1:=G x;have r2:=G Y;rw[V]at r1;rw[U]at r2;obtain⟨u,q1,q2⟩:=asy X r1 r2 J (ab1 m) z I W;exact OpRes.lift q1 q2 (by simp only[execOp,H];rfl)
  ·cases h
 ·rename_i T x Z H;split at h
  ·rename_i E k g M ik n J V U;cases m:ad1 st k g E with
   |none=>rw[m]at h;cases h
   |some xs=>
    rw[m]at h;simp only at h;cases t:(Nat.beq E M&&!(Nat.beq (Γ.P.cellsOf E) 0))with
    |false=>rw[t]at h;cases h
    |true=>
     rw[t]at h;simp only[Ad,Aj,Prod.mk.injEq,Ax]at h;obtain⟨⟨I,W⟩,rfl,rfl,rfl⟩:=h;simp only[Ai,Bool.not_eq_true']at t;have:=Ag t.1;subst this;have z:Γ.P.cellsOf E≠0:=λe=>by rw[e]at t;cases t.2
     have r1:=G x;have r2:=G Z;rw[V]at r1;rw[U]at r2;refine OpRes.lift0 X ?_ (by simp only[execOp,H];rfl);cases O:Nat.blt n.toNat xs.length with
     |true=>have:=Nat.blt_eq.mp O;exact awh r1 r2 J (ab1 m) z I (by omega)
     |false=>
      have:¬n.toNat<xs.length:=λe=>by rw[Nat.blt_eq.mpr e]at O;cases O
      exact awi r1 r2 J (ab1 m) z (by omega) I
  ·cases h
 ·cases h
end
end Go.Ab
