/- One operation: what the evaluator says of it, the model does. -/
import Derived.Test.YticdffgjgfmicaaGreatDoorAbBuild
set_option linter.unusedVariables false
set_option linter.unusedSimpArgs false
set_option linter.unnecessarySimpa false
namespace Go.Ab
open Go
section
variable{Γ:Ctx}{D:Dom}{ow:Own}{μ:Nat->Nat}{st:List BX}{w:World}{η:Operand->Value}{ρ ρt ρf:Operand->SV}
theorem OpRes.lift{r:Result Next}{v:SV}{st':List BX}{s:Sem Value}{u:Value}{w':World}(o:s.run Γ.P w=.ok u w')(h:OpRes Γ D ow μ st w (.ok (.value u) w') v st')(m:r=(do pure (.value (<-s)):Sem Next).run Γ.P w):OpRes Γ D ow μ st w r v st':=by grind[Sem.run_bind,Result.andThen_ok,Sem.run_pure]
theorem OpRes.lift0(z:WRel Γ D ow μ st w){r:Result Next}{v:SV}{s:Sem Value}(h:∃u,s.run Γ.P w=.ok u w/\SRep Γ.P D w ow μ st v u)(t:r=(do pure (.value (<-s)):Sem Next).run Γ.P w):OpRes Γ D ow μ st w r v st:=by obtain⟨u,m,o⟩:=h;exact OpRes.lift m (OpRes.still z rfl o) t
theorem OpRes.liftU{r:Result Next}{v:SV}{st':List BX}{s:Sem Unit}{w':World}(o:s.run Γ.P w=.ok () w')(h:OpRes Γ D ow μ st w (.ok .skip w') v st')(m:r=(do s;pure .skip:Sem Next).run Γ.P w):OpRes Γ D ow μ st w r v st':=by grind[Sem.run_bind,Result.andThen_ok,Sem.run_pure]
theorem awc{b:Bool}{x:Ac}{v:SV}(h:x≠.val true v):(bif b then x else .fail)≠.val true v:=by grind
theorem an0(P:Program)(st:List BX)(T:TypeId)(x y:SV)(c:Bool)(v:SV):acy P st T x y≠.val c v:=by unfold acy;grind
theorem an1(P:Program)(st:List BX)(T:TypeId)(x y:SV)(c:Bool)(v:SV):aco P st T x y≠.val c v:=by unfold aco;intro h;simp only[As]at h;grind[an0]
theorem ao2(P:Program)(st:List BX)(T:TypeId)(x:SV)(c:Bool)(v:SV):ae5 P st T x≠.val c v:=by unfold ae5;grind
theorem afg(P:Program)(T:TypeId)(st:List BX)(a x v:SV):ad5 P T st a x≠.val true v:=by unfold ad5;grind
theorem aq6(P:Program)(T:TypeId)(st:List BX)(a x v:SV):aek P T st a x≠.val true v:=by
 intro h;unfold aek at h;split at h
 ·split at h
  ·split at h
   ·simp only[As]at h;grind[afg]
   ·cases h
  grind[afg]
 grind[afg]
theorem afd(P:Program)(T:TypeId)(st:List BX)(m k x v:SV):ab0 P T st m k x≠.val true v:=by unfold ab0;grind
theorem alk(P:Program)(T:TypeId)(st:List BX)(m k v:SV):acl P T st m k≠.val true v:=by unfold acl;grind
theorem ajn(P:Program)(T:TypeId)(st:List BX)(m k x v:SV):ab5 P T st m k x≠.val true v:=by unfold ab5;grind
theorem axh(m:∀x,SRep Γ.P D w ow μ st (ρ x) (η x))(ps:Array (Nat×Operand)):(ps.toList.map λ(i,x)=>(i,ρ x)).length=(ps.map λ(i,x)=>(i,η x)).size/\
 ∀(n i:Nat)(s:SV)(j:Nat)(u:Value),(ps.toList.map λ(i,x)=>(i,ρ x))[n]?=some (i,s)->(ps.map λ(i,x)=>(i,η x))[n]?=some (j,u)->i=j/\SRep Γ.P D w ow μ st s u:=by
 grind
theorem azx(z:Bool):∀(ss:List SV)(o:List Value)(k:IntKind)(a n:Int),ss.length=o.length->(∀(i:Nat)(s:SV)(u:Value),ss[i]?=some s->o[i]?=some u->SRep Γ.P D w ow μ st s u)->ai5 z a ss=some n->
 (o.foldlM (if z then Builtin.max2 else Builtin.min2) (.int k a):Sem Value).run Γ.P w=.ok (.int k n) w:=by
 intro ss
 induction ss with
 |nil=>
  intro o k a n t _ h
  have:o=[]:=A4 (by grind)
  subst this
  simp[ai5]at h;subst h
  simp
 |cons x r J=>
  intro o k a n t m h
  cases o with
  |nil=>simp at t
  |cons u q=>
   have G:=m 0 x u rfl rfl
   cases x with
   |int O b=>
    generalize M:u=uu at G
    cases G
    simp only[ai5]at h
    have:=J q k _ n (by simpa using t) (λi s v H I=>m (i+1) s v (by simpa using H) (by simpa using I)) h
    cases z
    ·simp only[Af,A5,A9]at this ⊢;grind[Builtin.min2]
    ·simp only[Ad,A8]at this ⊢;simp only[List.foldlM_cons,Builtin.max2,pure_bind];exact this
   |_=>simp[ai5]at h
theorem anu(t:Bool)(ss:List SV)(o:List Value)(z:ss.length=o.length)(m:∀(i:Nat)(s:SV)(u:Value),ss[i]?=some s->o[i]?=some u->SRep Γ.P D w ow μ st s u)(v:SV)(h:ad8 t ss=.val true v):
 ∃(x:Value)(q:List Value)(u:Value),o=x::q/\(q.foldlM (if t then Builtin.max2 else Builtin.min2) x:Sem Value).run Γ.P w=.ok u w/\SRep Γ.P D w ow μ st v u:=by
 unfold ad8 at h
 split at h
 ·rename_i k a r;cases o with
  |nil=>simp at z
  |cons x q=>
   have G:=m 0 _ x rfl rfl;generalize M:x=O at G;cases G;split at h
   ·rename_i n J;simp only[Ac.val.injEq,true_and]at h;subst h;exact⟨_,q,_,rfl,azx t r q k a n (by simpa using z) (λi s v H I=>m (i+1) s v (by simpa using H) (by simpa using I)) J,.int⟩
   ·cases h
 ·cases h
theorem afi(I:WRel Γ D ow μ st w)(G:∀x,SRep Γ.P D w ow μ st (ρ x) (η x))(o:Oper)
 (ab:∀c x y,o.op=.pick c x y->(η c=.bool true->SRep Γ.P D w ow μ st (ρt x) (η x))/\(η c=.bool false->SRep Γ.P D w ow μ st (ρf y) (η y)))
 (v:SV) (h:ac Γ.P o.op ρ ρt ρf st=.val true v):OpRes Γ D ow μ st w ((execOp η o).run Γ.P w) v st:=by
 cases z:o.op with
 |move x=>
  rw[z]at h;simp only[ac,Ac.val.injEq,true_and]at h;subst h
  exact OpRes.still I (by simp only[execOp,z,Sem.run_pure]) (G x)
 |assign x=>
  rw[z]at h;simp only[ac,Ac.val.injEq,true_and]at h;subst h
  exact OpRes.still I (by simp only[execOp,z,Sem.run_pure]) (G x)
 |pick c x y=>
  rw[z]at h;simp only[ac]at h
  obtain⟨M,O⟩:=ab c x y z
  split at h
  ·rename_i b p q hc J hy;simp only[Ac.val.injEq,true_and]at h;subst h;have aa:=G c;rw[hc]at aa;generalize H:η c=Y at aa;cases aa;have ak:(execOp η o).run Γ.P w=.ok (.value (if b then η x else η y)) w:=by
    simp only[execOp,z,H,asBool,Sem.run_bind,Sem.run_pure,Result.andThen_ok]
   rw[ak];cases b with
   |true=>have:=M H;rw[J]at this;exact OpRes.still I rfl this
   |false=>have:=O H;rw[hy]at this;exact OpRes.still I rfl this
  ·simp at h
 |build T ps=>
  rw[z]at h;simp only[ac]at h
  obtain⟨q1,q2⟩:=axh (Γ:=Γ) G ps
  exact OpRes.lift0 I (ayt T _ _ v q1 q2 h) (by simp only[execOp,z])
 |buildSlice T n ps=>
  rw[z]at h;simp only[ac]at h
  obtain⟨q1,q2⟩:=axh (Γ:=Γ) G ps
  obtain⟨u,w',r1,r2⟩:=an3 I T n _ _ v q1 q2 h
  exact OpRes.lift r1 r2 (by simp only[execOp,z])
 |load T a=>
  rw[z]at h;simp only[ac]at h
  exact OpRes.lift0 I (a4s I T _ _ v (G a) h) (by simp only[execOp,z])
 |nilCheck x=>
  rw[z]at h;simp only[ac]at h
  have J:=G x
  split at h
  ·rename_i k p T V;simp only[Ac.val.injEq,true_and]at h;subst h;rw[V]at J;generalize H:η x=Y at J;have Z:=J;cases J;exact OpRes.still I (by simp only[execOp,z,H,Sem.run_pure]) Z
  ·rename_i T pv V;simp only[Ac.val.injEq,true_and]at h;subst h;rw[V]at J;generalize H:η x=Y at J;have Z:=J;cases J;exact OpRes.still I (by simp only[execOp,z,H,Sem.run_pure]) Z
  ·rename_i f cs V;simp only[Ac.val.injEq,true_and]at h;subst h;rw[V]at J;generalize H:η x=Y at J;have Z:=J;cases J;exact OpRes.still I (by simp only[execOp,z,H,Sem.run_pure]) Z
  ·rename_i k T V;simp only[Ac.val.injEq,true_and]at h;subst h;rw[V]at J;generalize H:η x=Y at J;have Z:=J;cases J;exact OpRes.still I (by simp only[execOp,z,H,Sem.run_pure]) Z
  ·rename_i k g i E p T V;cases hg:afu st k g with
   |false=>rw[hg]at h;cases h
   |true=>
    rw[hg]at h;simp only[Ad,Ac.val.injEq,true_and]at h;subst h;rw[V]at J;generalize H:η x=Y at J;have Z:=J;cases J with
    |arefOld hk ag _=>unfold afu at hg;rw[hk]at hg;have:=Ag hg;omega
    |aref=>exact OpRes.still I (by simp only[execOp,z,H,Sem.run_pure]) Z
  ·simp at h
 |binOp b T x y T2=>
  rw[z]at h;simp only[ac]at h
  unfold aow at h
  cases hN:(a8u y&&aof Γ.P T)with
  |false=>
   rw[hN]at h
   exact OpRes.lift0 I (a7a T b _ _ _ _ v (G x) (G y) h x y) (by simp only[execOp,z])
  |true=>
   rw[hN]at h
   simp only[Ad]at h
   simp only[Ai]at hN
   split at h
   ·rename_i hb;have hy:=G y;rw[hb]at hy;have H:η y=.nilIface:=by
     generalize η y=Y at hy;cases hy with
     |eif M _=>exact M rfl
    have aj:y=.const .nilIface:=by
     have:=hN.1;unfold a8u at this;split at this
     ·rfl
     ·cases this
    subst aj;have:=azj (Γ:=Γ) (D:=D) (w:=w) T b _ _ v (G x) hN.2 h x;rw[<-H]at this;have e:(do eqGuard b T x (.const (η (.const .nilIface))) (η x) (η (.const .nilIface));binOp b T (η x) (η (.const .nilIface)):Sem Value)=(do eqGuard b T x (.const .nilIface) (η x) (η (.const .nilIface));binOp b T (η x) (η (.const .nilIface))):=by rw[H]
    rw[e]at this;exact OpRes.lift0 I this (by simp only[execOp,z])
   ·simp at h
 |unOp u T x=>
  rw[z]at h;simp only[ac]at h
  exact OpRes.lift0 I (bfi u _ _ v (G x) h) (by simp only[execOp,z])
 |convert s d x=>
  rw[z]at h;simp only[ac]at h
  exact OpRes.lift0 I (awd I s d _ _ v (G x) h) (by simp only[execOp,z])
 |makeFunc fn first cs=>
  rw[z]at h;simp only[ac]at h
  unfold aey at h
  split at h
  ·rename_i f;simp only[Ac.val.injEq,true_and]at h;subst h;refine OpRes.still I (u:=.func (.func f) (first.map η) (cs.map η)) (by simp[execOp,z,Instr.makeFunc]) (.fn (by simp) (by simp) (λi s v hi U=>?_));rw[<-List.map_append,Bh]at hi;rw[<-Array.map_append,Array.getElem?_map]at U;cases W:(first++cs)[i]? with
   |none=>rw[W]at U;simp at U
   |some p=>
    have:(first.toList++cs.toList)[i]?=some p:=by rw[<-Array.toList_append,Array.getElem?_toList];exact W
    rw[this]at hi;rw[W]at U;simp at hi U;subst hi;subst U;exact G p
  ·simp at h
 |slice T x lo hi mx=>
  rw[z]at h;simp only[ac]at h
  have af:∀s u,lo.map ρ=some s->lo.map η=some u->SRep Γ.P D w ow μ st s u:=by
   intro s u M O;cases lo with
   |none=>simp at M
   |some l=>simp at M O;subst M;subst O;exact G l
  cases U:a2v Γ.P T (ρ x) (lo.map ρ) (hi.map ρ) (mx.map ρ)with
  |some r=>
   rw[U]at h
   simp only[Ac.val.injEq]at h
   obtain⟨u,M,O⟩:=a6b T _ _ _ _ _ (lo.map η) (hi.map η) (mx.map η) r (G x) af (by simp) (by simp) (by simp) U h.1
   rw[h.2]at O
   exact OpRes.lift0 I ⟨u,M,O⟩ (by simp only[execOp,z])
  |none=>
  rw[U]at h
  refine OpRes.lift0 I (aq3 T _ _ _ _ _ (lo.map η) (hi.map η) (mx.map η) v (G x) af (by simp) ?_ (by simp) (by simp) h) (by simp only[execOp,z])
  ·intro s u M O;cases hi with
   |none=>simp at M
   |some l=>simp at M O;subst M;subst O;exact G l
 |fieldAddr S x i=>
  rw[z]at h;simp only[ac]at h
  exact OpRes.lift0 I (ape S i _ _ v (G x) h) (by simp only[execOp,z])
 |field S x i=>
  rw[z]at h;simp only[ac]at h
  exact OpRes.lift0 I (ay8 S i _ _ v (G x) h) (by simp only[execOp,z])
 |indexAddr T x i=>
  rw[z]at h;simp only[ac]at h
  cases W:aot Γ.P T (aud i) (ρ x) (ρ i)with
  |none=>rw[W]at h;exact OpRes.lift0 I (apq T _ _ _ _ v (G x) (G i) h) (by simp only[execOp,z])
  |some r=>
   rw[W]at h
   simp only[Ac.val.injEq]at h
   obtain⟨u,M,O⟩:=atq T _ _ _ _ _ (G x) (G i) W
   rw[h.2]at O
   exact OpRes.lift0 I ⟨u,M,O⟩ (by simp only[execOp,z])
 |index T x i=>
  rw[z]at h;simp only[ac]at h
  exact OpRes.lift0 I (azk T _ _ _ _ v (G x) (G i) h) (by simp only[execOp,z])
 |lookup T m k ok=>
  rw[z]at h;simp only[ac]at h
  exact OpRes.lift0 I (aw6 I T _ _ _ _ ok v (G m) (G k) h) (by simp only[execOp,z])
 |extract t i=>
  rw[z]at h;simp only[ac]at h
  have J:=G t
  unfold aib at h
  split at h
  ·rename_i vs V;split at h
   ·rename_i s X;simp only[Ac.val.injEq,true_and]at h;subst h;rw[V]at J;generalize H:η t=Y at J;cases J with
    |@tup _ us ai ae=>
     have ag:i<us.size:=by rw[ai];exact(A6.1 X).1
     have hu:us[i]?=some us[i]:=Array.getElem?_eq_getElem ag;exact OpRes.still I (u:=us[i]) (by simp[execOp,z,H,Instr.extract,hu]) (ae i _ _ X hu)
   ·simp at h
  ·rename_i b p c V;rw[V]at J;generalize H:η t=Y at J;cases J with
   |nx M O=>
    split at h
    ·simp only[Ac.val.injEq,true_and]at h;subst h;cases b with
     |true=>have:=M rfl;subst this;exact OpRes.still I (u:=.bool true) (by simp[execOp,z,H,Instr.extract]) .bool
     |false=>have:=O rfl;subst this;exact OpRes.still I (u:=.bool false) (by simp[execOp,z,H,Instr.extract]) .bool
    ·simp only[Ac.val.injEq]at h;obtain⟨hb,rfl⟩:=h;have:=M hb;subst this;exact OpRes.still I (u:=.int .i64 p) (by simp[execOp,z,H,Instr.extract]) .int
    ·simp only[Ac.val.injEq]at h;obtain⟨hb,rfl⟩:=h;have:=M hb;subst this;exact OpRes.still I (u:=.int .i32 c) (by simp[execOp,z,H,Instr.extract]) .int
    ·cases h
  ·simp at h
 |call c=>
  rw[z]at h
  simp only[ac]at h
  unfold ajt at h
  split at h
  ·simp at h
  ·split at h<;>simp at h
  ·rename_i hc;split at h
   ·rename_i x T J hT;have ha:c.args=#[x]:=by rw[<-Array.toArray_toList (xs:=c.args),J]
    have ah:c.argTypes=#[T]:=by rw[<-Array.toArray_toList (xs:=c.argTypes),hT]
    refine OpRes.lift0 I (a9l I T _ _ v (G x) h o.type) ?_;simp[execOp,z,resolve,hc,invoke,builtin,ha,ah]
   ·simp at h
  ·split at h
   ·exact absurd h (awc (an1 _ _ _ _ _ _ _))
   ·simp at h
  ·split at h
   ·exact absurd h (ao2 _ _ _ _ _ _)
   ·simp at h
  ·rename_i hc;obtain⟨x,q,u,e1,e2,e3⟩:=anu (Γ:=Γ) (D:=D) (w:=w) (ow:=ow) (μ:=μ) (st:=st) false _ (c.args.map η).toList (by simp) (λi s u M O=>by
    rw[Bh]at M;rw[Array.toList_map,Bh]at O;cases W:c.args.toList[i]? with
    |none=>rw[W]at M;cases M
    |some p=>rw[W]at M O;cases M;cases O;exact G p) v h
   refine OpRes.lift0 I ⟨u,e2,e3⟩ ?_;simp only[execOp,z,resolve,hc,invoke,builtin,Builtin.min_,Sem.run_bind,Sem.run_pure,Result.andThen_ok,e1];simp
  ·rename_i hc;obtain⟨x,q,u,e1,e2,e3⟩:=anu (Γ:=Γ) (D:=D) (w:=w) (ow:=ow) (μ:=μ) (st:=st) true _ (c.args.map η).toList (by simp) (λi s u M O=>by
    rw[Bh]at M;rw[Array.toList_map,Bh]at O;cases W:c.args.toList[i]? with
    |none=>rw[W]at M;cases M
    |some p=>rw[W]at M O;cases M;cases O;exact G p) v h
   refine OpRes.lift0 I ⟨u,e2,e3⟩ ?_;simp only[execOp,z,resolve,hc,invoke,builtin,Builtin.max_,Sem.run_bind,Sem.run_pure,Result.andThen_ok,e1];simp
  ·simp at h
 |makeInterface T x=>
  rw[z]at h;simp only[ac,aii]at h
  split at h
  ·cases h
  ·cases h
  ·rename_i d an hT;simp only[Ac.val.injEq,true_and]at h;subst h;refine OpRes.lift0 I (s:=Instr.makeInterface T (η x)) ⟨.iface T (η x),?_,.ifc (G x)⟩ (by simp only[execOp,z]);unfold Instr.makeInterface;simp only[Sem.run_bind,run_underlying hT,Result.andThen_ok];exact Sem.run_pure ..
 |panic x=>rw[z]at h;simp only[ac,aqe]at h;split at h<;>simp at h
 |alloc T=>
  rw[z]at h;simp only[ac,ah5,As]at h;repeat' split at h
  all_goals cases h
 |box T x=>
  rw[z]at h;simp only[ac,av8,As]at h;repeat' split at h
  all_goals cases h
 |makeSlice T n c=>
  rw[z]at h;simp only[ac,adl,afb,As]at h;repeat' split at h
  all_goals cases h
 |store T a x=>rw[z]at h;simp only[ac]at h;exact absurd h (aq6 _ _ _ _ _ _)
 |insert T m k x=>rw[z]at h;simp only[ac]at h;exact absurd h (afd _ _ _ _ _ _ _)
 |mapUpdate T m k x=>rw[z]at h;simp only[ac]at h;exact absurd h (afd _ _ _ _ _ _ _)
 |mapEntry T m k=>rw[z]at h;simp only[ac]at h;exact absurd h (alk _ _ _ _ _ _)
 |entryStore T m k x=>rw[z]at h;simp only[ac]at h;exact absurd h (ajn _ _ _ _ _ _ _)
 |makeMap T r=>rw[z]at h;simp only[ac]at h;unfold aee at h;split at h<;>simp at h
 |range T x=>rw[z]at h;simp only[ac]at h;unfold akn at h;split at h<;>first|(simp at h;done)|(simp only[As]at h;split at h<;>simp at h)
 |next x b=>
  rw[z]at h;simp only[ac]at h;unfold ap8 at h;repeat' split at h
  all_goals simp at h
 |entry x=>
  rw[z]at h;simp only[ac]at h
  have J:=G x
  unfold amk at h
  split at h
  ·rename_i k V;split at h
   ·rename_i K E e es hk;simp only[Ac.val.injEq,true_and]at h;subst h;rw[V]at J;generalize H:η x=Y at J;cases J with
    |mitr _=>
     obtain⟨_,_,m,al,c0,am,q3,_,q5⟩:=I.obj k _ hk;obtain⟨r,ents,ad,kc,vc,rfl,a2,a3,a4,a5,a6,a7,a8,a9⟩:=q5 e rfl;refine OpRes.still I (u:=.tuple #[ad.key,ad.val]) ?_ (.tup rfl λi s v X U=>?_)
     ·simp[execOp,z,H,Instr.entry,getObj,Sem.run,q3,a3,a4,a5]
     ·match i,X,U with
      |0,X,U=>simp at X U;subst X;subst U;rw[a8];exact a6.ofPV
      |1,X,U=>simp at X U;subst X;subst U;rw[a9];exact a7.ofPV
   ·cases h
  ·cases h
 |_=>rw[z]at h;simp[ac]at h
end
end Go.Ab
namespace Go.Ab
open Go
section
variable{Γ:Ctx}{D:Dom}{ow:Own}{μ:Nat->Nat}{st:List BX}{w:World}{η:Operand->Value}{ρ ρt ρf:Operand->SV}
def ace(x:Ac):Prop:=∀c v s,x≠.upd c v s
def a6k(x:Ac):Prop:=∀f m,x≠.call f m
theorem aau{c:Bool}{v:SV}:ace (.val c v):=λ_ _ _ h=>by cases h
theorem aaj:ace .fail:=λ_ _ _ h=>by cases h
theorem bdm(m:BinOp)(k:IntKind)(x y:Int):ace (a4j m k x y):=by cases m<;>first|exact aau|exact aaj
theorem be5(m:BinOp)(x y:Bn):ace (a5w m x y):=by cases m<;>first|exact aau|exact aaj
theorem a7d(m:BinOp)(x y:Bool):ace (asj m x y):=by cases m<;>first|exact aau|exact aaj
theorem ach{b:Bool}{x:Ac}(h:ace x):ace (bif b then x else .fail):=by grind[aaj]
theorem bco{b:Bool}{x:Ac}(h:ace x):ace (bif b then .fail else x):=by grind[aaj]
theorem azy(m:BinOp)(x:SV):ace (ahj m x):=by
 unfold ahj;repeat' split
 all_goals(intro c v st' h;simp at h)
theorem a0u(P:Program)(m:BinOp)(T:TypeId)(x y:SV):ace (aer P m T x y):=by
 unfold aer;split
 ·refine ach ?_;grind[aau,aaj]
 ·exact aaj
theorem a0s(P:Program)(m:BinOp)(T:TypeId)(x y:SV):a6k (aer P m T x y):=by unfold aer;intro f o h;grind
theorem bcf(P:Program)(m:BinOp)(T:TypeId)(x y:SV):ace (ayq P m T x y):=by
 unfold ayq;split
 ·split
  ·exact aau
  ·exact aau
  ·exact ach (bdm _ _ _ _)
 ·exact be5 _ _ _
 ·exact ach (a7d _ _ _)
 ·exact ach (by cases m<;>first|exact aau|exact aaj)
 ·exact ach (by cases m<;>first|exact aau|exact aaj)
 grind[a0u]
theorem bh6(m:UnOp)(x:SV):ace (unAc m x):=by unfold unAc;grind[aau,aaj]
theorem a7k(P:Program)(s d:TypeId)(x:SV):ace (ao7 P s d x):=by unfold ao7;refine ach ?_;split<;>first|exact aau|exact aaj|exact ach aau
theorem ay2(P:Program)(st:List BX)(s d:TypeId)(x:SV):ace (afk P st s d x):=by
 unfold afk;split
 ·split
  ·exact ach aau
  ·exact aaj
 all_goals grind[a7k]
theorem ayl(P:Program)(st:List BX)(T:TypeId)(x y:SV)(f:FuncId)(args:List SV):aco P st T x y≠.call f args:=by
 intro h;unfold aco acy at h;simp only[As]at h;repeat' split at h
 all_goals grind
theorem aym(P:Program)(st:List BX)(T:TypeId)(x y v:SV):aco P st T x y≠.pan v:=by
 intro h;unfold aco acy at h;simp only[As]at h;repeat' split at h
 all_goals grind
theorem a3j(P:Program)(T:TypeId)(ps:List (Nat×SV)):ace (aka P T ps):=by
 unfold aka;split
 ·exact ach aau
 ·refine ach ?_;grind[aau,aaj]
 ·exact aaj
theorem aoz(P:Program)(T:TypeId)(n:Nat)(ps:List (Nat×SV)):ace (ac1 P T n ps):=by
 unfold ac1;split
 ·exact aau
 ·split
  ·exact ach aau
  ·exact aaj
theorem a9o(P:Program)(T:TypeId)(st:List BX)(a:SV):ace (ahu P T st a):=by intro c v s h;unfold ahu at h;grind
theorem art(P:Program)(st:List BX)(S:TypeId)(i:Nat)(a:SV):ace (ac2 P st S i a):=by
 unfold ac2;split
 ·split
  ·refine bco ?_;split<;>first|exact ach aau|exact aaj
  ·exact aaj
 ·exact aaj
theorem a3x(P:Program)(S:TypeId)(i:Nat)(a:SV):ace (akf P S i a):=by
 unfold akf;split
 ·split
  ·refine ach ?_;split
   ·exact ach aau
   ·refine ach ?_;grind[aau,aaj]
   ·exact aaj
  ·exact aaj
 ·exact aaj
theorem aru(P:Program)(T:TypeId)(st:List BX)(x i:SV):ace (ac3 P T st x i):=by intro c v s h;unfold ac3 at h;grind
theorem a4i(P:Program)(T:TypeId)(x i:SV):ace (akh P T x i):=by unfold akh;split<;>first|exact aau|exact ach aau|exact aaj
theorem a5u(P:Program)(T:TypeId)(x:SV)(o m t:Option SV):ace (ait P T x o m t):=by
 unfold ait;split
 ·exact aaj
 ·split
  ·exact aau
  ·split
   ·grind[aau,aaj]
   ·split
    ·split<;>first|exact ach aau|exact aaj
    ·exact aaj
   ·exact aaj
theorem azs(P:Program)(T:TypeId)(st:List BX)(m k:SV)(o:Bool):ace (ac5 P T st m k o):=by
 unfold ac5;split
 ·refine ach ?_;split
  ·exact ach aau
  ·split
   ·exact ach aau
   ·exact aaj
  ·exact aaj
 ·exact aaj
theorem bdv(P:Program)(T:TypeId)(st:List BX)(x:SV):ace (aui P T st x):=by unfold aui;grind[aau,aaj]
theorem ap7(m:Bool)(ss:List SV):ace (ad8 m ss):=by unfold ad8;grind[aau,aaj]
theorem ap5(m:Bool)(ss:List SV):a6k (ad8 m ss):=by unfold ad8;intro f o h;grind
theorem aum(fn:Fn)(first cs:List SV):ace (aey fn first cs):=by unfold aey;grind[aau,aaj]
theorem bcp{b:Bool}{x:Ac}{v:SV}{s:List BX}(h:(bif b then x else .fail)=.upd true v s):b=true/\x=.upd true v s:=by grind
theorem anf(H:WRel Γ D ow μ st w)(G:∀x,SRep Γ.P D w ow μ st (ρ x) (η x))(o:Oper)(v:SV)(st':List BX)(h:ac Γ.P o.op ρ ρt ρf st=.upd true v st'):OpRes Γ D ow μ st w ((execOp η o).run Γ.P w) v st':=by
 cases z:o.op with
 |alloc T=>grind[ac,ayk,OpRes.lift,execOp]
 |box T x=>grind[ac,ays,OpRes.lift,execOp]
 |makeSlice T n c=>
  rw[z]at h;simp only[ac]at h;cases U:a8w n with
  |true=>rw[U]at h;simp only[Ad]at h;grind[ap0,OpRes.lift,execOp]
  |false=>rw[U]at h;simp only[Af]at h;grind[auo,OpRes.lift,execOp]
 |store T a x=>grind[ac,avk,OpRes.liftU,execOp]
 |insert T m k x=>grind[ac,aij,OpRes.liftU,execOp]
 |mapUpdate T m k x=>grind[ac,aij,OpRes.liftU,execOp]
 |mapEntry T m k=>grind[ac,ary,OpRes.lift,execOp]
 |entryStore T m k x=>grind[ac,an4,OpRes.liftU,execOp]
 |makeMap T r=>
  rw[z]at h;simp only[ac]at h;unfold aee at h;split at h
  ·rename_i K E O;simp only[Ac.upd.injEq,true_and]at h;obtain⟨rfl,rfl⟩:=h;obtain⟨u,w',J,M⟩:=aun H T K E;grind[OpRes.lift,execOp]
  ·simp at h
 |call c=>
  rw[z]at h;simp only[ac]at h;unfold ajt at h;split at h
  ·simp at h
  ·grind
  ·split at h
   ·exact absurd h (bdv _ _ _ _ _ _ _)
   ·simp at h
  ·rename_i Y;split at h
   ·rename_i x y T T' Z O;obtain⟨V,W⟩:=bcp h;have:=Ag V;subst this;have X:c.args=#[x,y]:=by grind
    have I:c.argTypes=#[T,T]:=by grind
    obtain⟨u,w',J,M⟩:=arm H T o.type _ _ _ _ v st' (G x) (G y) W;grind[OpRes.lift,execOp,resolve,invoke,builtin]
   ·simp at h
  ·rename_i Y;split at h
   ·rename_i x T Z O;have X:c.args=#[x]:=by grind
    have I:c.argTypes=#[T]:=by grind
    obtain⟨u,w',J,M⟩:=ayx H T o.type _ _ v st' (G x) h;grind[OpRes.lift,execOp,resolve,invoke,builtin]
   ·simp at h
  ·exact absurd h (ap7 _ _ _ _ _)
  ·exact absurd h (ap7 _ _ _ _ _)
  ·simp at h
 |move x=>grind[ac]
 |assign x=>grind[ac]
 |pick c x y=>grind[ac]
 |build T ps=>rw[z]at h;exact absurd h (a3j _ _ _ _ _ _)
 |buildSlice T n ps=>rw[z]at h;exact absurd h (aoz _ _ _ _ _ _ _)
 |load T a=>rw[z]at h;exact absurd h (a9o _ _ _ _ _ _ _)
 |nilCheck x=>rw[z]at h;simp only[ac,As]at h;grind
 |binOp b T x y T2=>
  rw[z]at h;simp only[ac,aow,As]at h;split at h
  ·split at h
   ·exact absurd h (azy _ _ _ _ _)
   ·simp at h
  ·exact absurd h (bcf _ _ _ _ _ _ _ _)
 |unOp u T x=>rw[z]at h;exact absurd h (bh6 _ _ _ _ _)
 |convert s d x=>rw[z]at h;exact absurd h (ay2 _ _ _ _ _ _ _ _)
 |makeFunc fn first cs=>rw[z]at h;exact absurd h (aum _ _ _ _ _ _)
 |slice T x lo hi mx=>
  rw[z]at h;simp only[ac]at h;split at h
  ·cases h
  ·exact absurd h (a5u _ _ _ _ _ _ _ _ _)
 |fieldAddr S x i=>rw[z]at h;exact absurd h (art _ _ _ _ _ _ _ _)
 |field S x i=>rw[z]at h;exact absurd h (a3x _ _ _ _ _ _ _)
 |indexAddr T x i=>
  rw[z]at h;simp only[ac]at h;split at h
  ·cases h
  ·exact absurd h (aru _ _ _ _ _ _ _ _)
 |index T x i=>rw[z]at h;exact absurd h (a4i _ _ _ _ _ _ _)
 |lookup T m k ok=>rw[z]at h;exact absurd h (azs _ _ _ _ _ _ _ _ _)
 |extract t i=>rw[z]at h;simp only[ac]at h;unfold aib at h;grind
 |range T x=>grind[ac,az7,OpRes.lift,execOp]
 |next x b=>rw[z]at h;simp only[ac]at h;obtain⟨u,w',J,M⟩:=a4y H _ _ b o.type v st' (G x) h;grind[OpRes.lift,execOp]
 |entry x=>rw[z]at h;simp only[ac]at h;unfold amk at h;grind
 |makeInterface T x=>grind[ac,aii]
 |panic x=>rw[z]at h;simp only[ac,aqe]at h;grind
 |_=>rw[z]at h;simp[ac]at h
theorem ab4(U:∀x,SRep Γ.P D w ow μ st (ρ x) (η x))(af:∀f,η (.func f)=.func (.func f) #[] #[])(o:Oper)(f:FuncId)(args:List SV)(h:ac Γ.P o.op ρ ρt ρf st=.call f args):
 ∃G:Array Value,(execOp η o).run Γ.P w=(callFunc f G).run Γ.P w/\G.size=args.length/\∀(i:Nat)(s:SV)(v:Value),args[i]?=some s->G[i]?=some v->SRep Γ.P D w ow μ st s v:=by
 have H:∀xs:Array Operand,∀(i:Nat)(s:SV)(v:Value),(xs.toList.map ρ)[i]?=some s->(xs.map η)[i]?=some v->SRep Γ.P D w ow μ st s v:=by grind
 cases z:o.op with
 |call c=>
  rw[z]at h;simp only[ac]at h
  unfold ajt at h
  split at h
  ·rename_i g X;simp only[Ac.call.injEq]at h;obtain⟨rfl,rfl⟩:=h;refine⟨c.args.map η,?_,by simp,H c.args⟩;grind[execOp,resolve,Deferred.ofValue,invoke]
  ·rename_i x ad X;have O:=U x;split at h
   ·rename_i g n I Z;simp only[Ac.call.injEq]at h;obtain⟨rfl,rfl⟩:=h;rw[Z]at O;generalize Y:η x=cv at O;cases O with
    |@fn _ _ _ J vs hn ae V=>
     have ab:n<=I.length:=by grind
     have M:(I.take n).length=J.size:=by grind
     refine⟨J++c.args.map η++vs,?_,by grind,λi s v hs W=>?_⟩
     ·grind[execOp,resolve,Deferred.ofValue,invoke]
     ·rw[Array.append_assoc]at W;by_cases hi:i<J.size
      ·all_goals grind
      ·rw[A3 (by omega),M]at hs;rw[Array.getElem?_append_right (by omega)]at W;by_cases aa:i-J.size<c.args.size;all_goals grind
   ·simp at h
  ·split at h
   ·unfold aui at h;grind
   ·simp at h
  ·split at h
   ·simp only[As]at h;grind[absurd,ayl]
   ·simp at h
  ·split at h
   ·simp only[ae5,As]at h;grind
   ·simp at h
  ·exact absurd h (ap5 _ _ _ _)
  ·exact absurd h (ap5 _ _ _ _)
  ·simp at h
 |move x=>grind[ac]
 |assign x=>grind[ac]
 |pick c x y=>grind[ac]
 |alloc T=>rw[z]at h;simp only[ac,ah5,As]at h;grind
 |box T x=>rw[z]at h;simp only[ac,av8,As]at h;grind
 |makeSlice T n c=>rw[z]at h;simp only[ac,adl,afb,As]at h;all_goals grind
 |store T a x=>
  rw[z]at h;simp only[ac,aek,ad5,As]at h;repeat' split at h
  all_goals grind
 |insert T m k x=>rw[z]at h;simp only[ac,ab0,As]at h;grind
 |mapUpdate T m k x=>rw[z]at h;simp only[ac,ab0,As]at h;grind
 |mapEntry T m k=>rw[z]at h;simp only[ac,acl,As]at h;grind
 |entryStore T m k x=>rw[z]at h;simp only[ac,ab5,As]at h;grind
 |makeMap T r=>rw[z]at h;simp only[ac,aee]at h;grind
 |build T ps=>rw[z]at h;simp only[ac,aka,As]at h;grind
 |buildSlice T n ps=>rw[z]at h;simp only[ac,ac1,As]at h;grind
 |load T a=>rw[z]at h;simp only[ac,ahu,As]at h;grind
 |nilCheck x=>rw[z]at h;simp only[ac,As]at h;grind
 |binOp b T x y T2=>
  rw[z]at h;simp only[ac,aow,ahj,ayq,As]at h;repeat' split at h
  all_goals first
   |(exact absurd h (a0s _ _ _ _ _ _ _))
   |(simp at h;done)
   |(cases b<;>simp[a4j]at h;done)
   |(cases b<;>simp[a5w]at h;done)
   |(cases b<;>simp[asj]at h;done)
   |(cases b<;>simp[aez]at h;done)
 |unOp u T x=>rw[z]at h;simp only[ac,unAc]at h;grind
 |convert s d x=>rw[z]at h;simp only[ac,afk,ao7,As]at h;grind
 |makeFunc fn first cs=>rw[z]at h;simp only[ac,aey]at h;all_goals grind
 |slice T x lo hi mx=>
  rw[z]at h;simp only[ac,ait,As]at h;repeat' split at h
  all_goals grind
 |fieldAddr S x i=>rw[z]at h;simp only[ac,ac2,As]at h;grind
 |field S x i=>rw[z]at h;simp only[ac,akf,As]at h;grind
 |indexAddr T x i=>rw[z]at h;simp only[ac,ac3,As]at h;grind
 |index T x i=>rw[z]at h;simp only[ac,akh,As]at h;grind
 |lookup T m k ok=>
  rw[z]at h;simp only[ac,ac5,As]at h;repeat' split at h
  all_goals simp at h
 |extract t i=>rw[z]at h;simp only[ac]at h;unfold aib at h;split at h<;>first|(simp at h;done)|(split at h<;>simp at h)
 |range T x=>rw[z]at h;simp only[ac]at h;unfold akn at h;split at h<;>first|(simp at h;done)|(simp only[As]at h;split at h<;>simp at h)
 |next x b=>
  rw[z]at h;simp only[ac]at h;unfold ap8 at h;repeat' split at h
  all_goals simp at h
 |entry x=>
  rw[z]at h;simp only[ac]at h;unfold amk at h;repeat' split at h
  all_goals simp at h
 |makeInterface T x=>rw[z]at h;simp only[ac,aii]at h;split at h<;>simp at h
 |panic x=>rw[z]at h;simp only[ac,aqe]at h;split at h<;>simp at h
 |_=>rw[z]at h;simp[ac]at h
theorem a0t(P:Program)(m:BinOp)(T:TypeId)(x y v:SV):aer P m T x y≠.pan v:=by
 unfold aer;simp only[As];repeat' split
 all_goals simp
theorem ap6(m:Bool)(ss:List SV)(v:SV):ad8 m ss≠.pan v:=by
 unfold ad8;split
 ·split<;>simp
 ·simp
theorem avz(I:∀x,SRep Γ.P D w ow μ st (ρ x) (η x))(o:Oper)(s:SV)(h:ac Γ.P o.op ρ ρt ρf st=.pan s):∃u,(execOp η o).run Γ.P w=.halt (.panic u) w/\SRep Γ.P D w ow μ st s u:=by
 cases z:o.op with
 |panic x=>
  rw[z]at h;simp only[ac,aqe]at h;split at h
  ·rename_i T y M;simp only[Ac.pan.injEq]at h;subst h;have G:=I x;rw[M]at G;generalize H:η x=J at G;refine⟨J,?_,G⟩;cases G with
   |ifc G=>simp[execOp,z,H,Instr.panic,goPanic]
  ·cases h
 |call c=>
  rw[z]at h;simp only[ac]at h;unfold ajt at h;split at h
  ·cases h
  ·split at h<;>cases h
  ·split at h
   ·unfold aui at h;split at h<;>first|(simp at h;done)|(split at h<;>simp at h)
   ·cases h
  ·split at h
   ·simp only[As]at h;split at h
    ·exact absurd h (aym _ _ _ _ _ _)
    ·cases h
   ·cases h
  ·split at h
   ·simp only[ae5,As]at h;repeat' split at h
    all_goals cases h
   ·cases h
  ·exact absurd h (ap6 _ _ _)
  ·exact absurd h (ap6 _ _ _)
  ·cases h
 |move x=>rw[z]at h;simp[ac]at h
 |assign x=>rw[z]at h;simp[ac]at h
 |pick c x y=>rw[z]at h;simp only[ac]at h;split at h<;>simp at h
 |alloc T=>
  rw[z]at h;simp only[ac,ah5,As]at h;repeat' split at h
  all_goals cases h
 |box T x=>
  rw[z]at h;simp only[ac,av8,As]at h;repeat' split at h
  all_goals cases h
 |makeSlice T n c=>
  rw[z]at h;simp only[ac,adl,afb,As]at h;repeat' split at h
  all_goals cases h
 |store T a x=>
  rw[z]at h;simp only[ac,aek,ad5,As]at h;repeat' split at h
  all_goals simp at h
 |insert T m k x=>
  rw[z]at h;simp only[ac,ab0,As]at h;repeat' split at h
  all_goals simp at h
 |mapUpdate T m k x=>
  rw[z]at h;simp only[ac,ab0,As]at h;repeat' split at h
  all_goals simp at h
 |mapEntry T m k=>
  rw[z]at h;simp only[ac,acl,As]at h;repeat' split at h
  all_goals simp at h
 |entryStore T m k x=>
  rw[z]at h;simp only[ac,ab5,As]at h;repeat' split at h
  all_goals simp at h
 |makeMap T r=>rw[z]at h;simp only[ac,aee]at h;split at h<;>simp at h
 |build T ps=>
  rw[z]at h;simp only[ac,aka,As]at h;repeat' split at h
  all_goals simp at h
 |buildSlice T n ps=>
  rw[z]at h;simp only[ac,ac1,As]at h;repeat' split at h
  all_goals simp at h
 |load T a=>
  rw[z]at h;simp only[ac,ahu,As]at h;repeat' split at h
  all_goals simp at h
 |nilCheck x=>
  rw[z]at h;simp only[ac,As]at h;repeat' split at h
  all_goals cases h
 |binOp b T x y O=>
  rw[z]at h;simp only[ac,aow,ahj,ayq,As]at h;repeat' split at h
  all_goals first
   |(exact absurd h (a0t _ _ _ _ _ _))
   |(simp at h;done)
   |(cases b<;>simp[a4j]at h;done)
   |(cases b<;>simp[a5w]at h;done)
   |(cases b<;>simp[asj]at h;done)
   |(cases b<;>simp[aez]at h;done)
 |unOp u T x=>
  rw[z]at h;simp only[ac,unAc]at h;repeat' split at h
  all_goals simp at h
 |convert s d x=>
  rw[z]at h;simp only[ac,afk,ao7,As]at h;repeat' split at h
  all_goals simp at h
 |makeFunc fn first cs=>rw[z]at h;simp only[ac,aey]at h;split at h<;>simp at h
 |slice T x V U W=>
  rw[z]at h;simp only[ac,ait,As]at h;repeat' split at h
  all_goals simp at h
 |fieldAddr S x i=>
  rw[z]at h;simp only[ac,ac2,As]at h;repeat' split at h
  all_goals simp at h
 |field S x i=>
  rw[z]at h;simp only[ac,akf,As]at h;repeat' split at h
  all_goals simp at h
 |indexAddr T x i=>
  rw[z]at h;simp only[ac,ac3,As]at h;repeat' split at h
  all_goals simp at h
 |index T x i=>
  rw[z]at h;simp only[ac,akh,As]at h;repeat' split at h
  all_goals simp at h
 |lookup T m k X=>
  rw[z]at h;simp only[ac,ac5,As]at h;repeat' split at h
  all_goals simp at h
 |extract t i=>rw[z]at h;simp only[ac]at h;unfold aib at h;split at h<;>first|(simp at h;done)|(split at h<;>simp at h)
 |range T x=>rw[z]at h;simp only[ac]at h;unfold akn at h;split at h<;>first|(simp at h;done)|(simp only[As]at h;split at h<;>simp at h)
 |next x b=>
  rw[z]at h;simp only[ac]at h;unfold ap8 at h;repeat' split at h
  all_goals simp at h
 |entry x=>
  rw[z]at h;simp only[ac]at h;unfold amk at h;repeat' split at h
  all_goals simp at h
 |makeInterface T x=>rw[z]at h;simp only[ac,aii]at h;split at h<;>simp at h
 |_=>rw[z]at h;simp[ac]at h
theorem a0x(hw:WRel Γ D ow μ st w){η:Operand->Value}{ρ:Operand->SV}(z:∀x,SRep Γ.P D w ow μ st (ρ x) (η x))(o:Oper){v:SV}{st':List BX}(h:avm Γ.P o.op ρ st=some (true,v,st')):OpRes Γ D ow μ st w ((execOp η o).run Γ.P w) v st':=by
 unfold avm at h;split at h
 ·rename_i T x hh H;split at h
  ·rename_i E k g M ik n V X W;cases m:aem st k g E with
   |none=>rw[m]at h;cases h
   |some xs=>
    rw[m]at h;simp only at h;cases t:(Nat.beq E M&&!(Nat.beq (Γ.P.cellsOf E) 0))with
    |false=>rw[t]at h;cases h
    |true=>
     rw[t]at h;simp only[Ad,Aj,Prod.mk.injEq,Ax]at h;obtain⟨⟨O,U⟩,rfl,rfl⟩:=h;simp only[Ai,Bool.not_eq_true']at t;have:=Ag t.1;subst this;have G:Γ.P.cellsOf E≠0:=λe=>by rw[e]at t;cases t.2
     have I:=z x;have J:=z hh;rw[X]at I;rw[W]at J;obtain⟨u,Y,Z⟩:=ar9 hw I J V (ab2 m) G O U;exact OpRes.lift Y Z (by simp only[execOp,H];rfl)
  ·cases h
 ·rename_i T x hl H;split at h
  ·rename_i E k g M ik n V X W;cases m:aem st k g E with
   |none=>rw[m]at h;cases h
   |some xs=>
    rw[m]at h;simp only at h;cases t:(Nat.beq E M&&!(Nat.beq (Γ.P.cellsOf E) 0))with
    |false=>rw[t]at h;cases h
    |true=>
     rw[t]at h;simp only[Ad,Aj,Prod.mk.injEq,Ax]at h;obtain⟨⟨O,U⟩,rfl,rfl⟩:=h;simp only[Ai,Bool.not_eq_true']at t;have:=Ag t.1;subst this;have G:Γ.P.cellsOf E≠0:=λe=>by rw[e]at t;cases t.2
     have I:=z x;have J:=z hl;rw[X]at I;rw[W]at J;obtain⟨u,Y,Z⟩:=avr I J V (ab2 m) G O U;exact OpRes.lift0 hw ⟨u,Y,Z⟩ (by simp only[execOp,H];rfl)
  ·cases h
 ·cases h
end
end Go.Ab
