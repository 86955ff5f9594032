/- The evaluator is sound: code, functions. -/
import Derived.Test.YtofplaamkkpciaaGreatDoorAbDraw
import Derived.Scope
set_option linter.unusedVariables false
set_option linter.unusedSimpArgs false
set_option linter.unnecessarySimpa false
namespace Go.Ab
open Go
def NoGd(e:Env):Prop:=∀t u m x,e t≠.gd u m x
theorem NoGd.inv{e:Env}(h:NoGd e)(l:List Oper):GInv e l:=λt u m x o=>absurd o (h t u m x)
theorem NoGd.sweep(e:Env):NoGd (sweep e):=by intro t u m x h;grind[Ab.sweep]
theorem NoGd.set{e:Env}(h:NoGd e)(t:Nat){s:SV}(H:∀u m x,s≠.gd u m x):NoGd (e.set t s):=by
 intro z u m x o;unfold Env.set at o;cases G:Nat.beq z t with
 |true=>grind
 |false=>rw[G]at o;exact h z u m x o
theorem Rel.less{Γ:Ctx}{e m:Env}{st:List BX}{a:Act}{w:World}(h:Rel Γ e st a w)(o:∀t,m t=.undef\/m t=e t):Rel Γ m st a w:=by
 obtain⟨D,ow,μ,G,z⟩:=h;refine⟨D,ow,μ,G,z.size,z.defers,λt=>?_⟩;rcases o t with h|h
 ·rw[h];exact .undef
 ·rw[h];exact z.slot t
theorem Rel.sweep{Γ:Ctx}{e:Env}{st:List BX}{a:Act}{w:World}(h:Rel Γ e st a w):Rel Γ (sweep e) st a w:=
 h.less λt=>by grind[Ab.sweep]
theorem ayp{Γ:Ctx}{R:Type}{C:Cfg}(U:acx C)(V:C.P=Γ.P)(Y:Γ.n=C.n)(O:Γ.np=C.np){ops:Array Oper}{r:R}{K:Env->List BX->Option R}{X:SV->List BX->Option R}{Q:Exit->Act->World->Prop}
 (I:∀H st' z w',K H st'=some r->Rel Γ H st' z w'->Q .normal z w') (W:∀s st' v z w',X s st'=some r->PRel Γ s st' v z w'->Q (.panic [{ v,recovered:=false }]) z w'):∀(l:List Oper)(i:Nat),ops.toList.drop i=l->∀(e:Env)(st:List BX),a3u C ops l e st K X=some r->∀(a:Act)(w:World),Rel Γ e st a w->GInv e l->wpOps Γ.P ops Q (List.range' i l.length) a w:=by
 intro l
 induction l with
 |nil=>intro i G e st h a w m J;exact I _ _ _ _ h m
 |cons o t ih=>
  intro i G e st h a w m J
  have Z:ops[i]?=some o:=by
   have:(ops.toList.drop i)[0]?=some o:=by rw[G];rfl
   simpa using this
  have M:ops.toList.drop (i+1)=t:=by
   have:(ops.toList.drop i).drop 1=t:=by rw[G];rfl
   grind[List.drop_drop]
  grind[List.length_cons,List.range'_succ,wpOps_cons,a3u,a1e]
def a7n(Γ:Ctx)(x:LEx)(e:Env)(st:List BX)(Q:Exit->Act->World->Prop):Prop:=
 match x with
 |.exit i=>∀a w,Rel Γ e st a w->Q (.exit i) a w
 |.ret=>∀a w,Rel Γ e st a w->Q .ret a w
 |.pan=>∀v a w,PRel Γ (e 0) st v a w->Q (.panic [{ v,recovered:=false }]) a w
def a2f(C:Cfg)(body:Code)(m:Nat)(e:Env)(st:List BX)(x:LEx)(o:Env)(st':List BX):Prop:=
 ∀(Γ:Ctx),Γ.P=C.P->Γ.n=C.n->Γ.np=C.np->∀(Q:Exit->Act->World->Prop)(a:Act)(w:World),Rel Γ e st a w->NoGd e->a7n Γ x o st' Q->Code.rounds C.P body Q m a w
def LoopOk(C:Cfg)(body:Code):Prop:=∀(R:Type)(e:Env)(st:List BX)(K:LEx->Env->List BX->Option R)(r:R),C.lam R (aeg body) e st K=some r->
 ∃m,∀(Γ:Ctx),Γ.P=C.P->Γ.n=C.n->Γ.np=C.np->∀(Q:Exit->Act->World->Prop)(a:Act)(w:World),Rel Γ e st a w->NoGd e->
  (∀x o st',K x o st'=some r->NoGd o->a7n Γ x o st' Q)->Code.rounds C.P body Q m a w
theorem LoopOk.one {C:Cfg}{body:Code} (h:∀(R:Type)(e:Env)(st:List BX)(K:LEx->Env->List BX->Option R)(r:R),C.lam R (aeg body) e st K=some r->
 ∃x o st' m,K x o st'=some r/\NoGd o/\a2f C body m e st x o st'):LoopOk C body:=λR e st K r V=>by
 obtain⟨x,o,st',m,O,M,z⟩:=h R e st K r V
 exact⟨m,λΓ G H I Q a w t U J=>z Γ G H I Q a w t U (J x o st' O M)⟩
def aaq:Code->List Code
 |.seq a b=>aaq a++aaq b
 |.cond _ a b=>aaq a++aaq b
 |.block _ c=>aaq c
 |.scope c=>aaq c
 |.loop c=>[c]
 |_=>[]
theorem am2{Γ:Ctx}{R:Type}{C:Cfg}(hC:acx C)(hP:C.P=Γ.P)(hn:Γ.n=C.n)(ai:Γ.np=C.np)(r:R):∀(c:Code),(∀body,body∈aaq c->LoopOk C body)->∀(K:Ks R)(e:Env)(st:List BX),exec C c K e st=some r->
 ∀(Q:Exit->Act->World->Prop),(∀J st' H w',K.norm J st'=some r->NoGd J->Rel Γ J st' H w'->Q .normal H w')->(∀i J st' H w',K.exit i J st'=some r->NoGd J->Rel Γ J st' H w'->Q (.exit i) H w')->
  (∀J st' H w',K.ret J st'=some r->NoGd J->Rel Γ J st' H w'->Q .ret H w')->(∀s st' v H w',K.pan s st'=some r->PRel Γ s st' v H w'->Q (.panic [{ v,recovered:=false }]) H w')->∀(a:Act)(w:World),Rel Γ e st a w->NoGd e->c.wp Γ.P Q a w:=by
 intro c
 induction c with
 |skip=>intro _ K e st h Q I M U O a w o G;exact wp_skip (I _ _ _ _ h G o)
 |region id ops ae=>
  intro _ K e st h Q I M U O a w o G
  unfold exec runR at h
  cases ae with
  |false=>
   simp only[Af]at h
   refine wp_region ?_
   have:=ayp hC hP hn ai (ops:=ops) (Q:=Q) (λJ st' H w' W z=>I _ _ H w' W (NoGd.sweep J) z.sweep) O ops.toList 0 (by simp) e st h a w o (G.inv _)
   grind[List.range_eq_range',Array.length_toList]
  |true=>
   simp only[Ad]at h
   cases hd:axb C.P ops with
   |false=>grind
   |true=>
    rw[hd]at h
    simp only[Ad]at h
    have hm:Γ.P.follows .mixedOrders=true:=by rw[hP]at hd;simp only[axb,Ai]at hd;exact hd.1.1
    have z:Rel Γ e st a { w with drawn:=w.drawn+1 }:=by obtain⟨D,ow,μ,hw,Y⟩:=o;obtain⟨I,M⟩:=hw.drawn (w.drawn+1);exact⟨D,ow,μ,I,Y.mono M⟩
    exact wp_region_any hm (a6w hC hP hn (by grind) h G (λJ st' H w' W z=>I _ _ H w' W (NoGd.sweep J) z.sweep) O a _ z)
 |seq x y ab ad=>grind[exec,wp_seq,aaq,Exit.then]
 |cond c x y ab ad=>
  intro X K e st h Q I M U O a w o G
  unfold exec at h
  have af:∀body,body∈aaq x->LoopOk C body:=λb V=>X b (by simp[aaq,V])
  have ag:∀body,body∈aaq y->LoopOk C body:=λb V=>X b (by simp[aaq,V])
  split at h
  ·rename_i t;split at h
   ·rename_i b V;have ht:a.eval (.tmp t)=.bool b:=by
     obtain⟨D,ow,μ,hw,Y⟩:=o;have:=Y.slot t;rw[V]at this;show a.tmps.getD t Go.undef=_;generalize a.tmps.getD t Go.undef=v at this;cases this;rfl
    have Z:∀b',b'=b->Rel Γ (e.set t (.bool b')) st a w:=by
     intro b' ak;obtain⟨D,ow,μ,hw,Y⟩:=o;refine⟨D,ow,μ,hw,Y.size,Y.defers,λt'=>?_⟩;unfold Env.set;cases aj:Nat.beq t' t with
     |true=>have:=Ag aj;subst this;rw[ak];have:=Y.slot t';rwa[V]at this
     |false=>exact Y.slot t'
    cases b with
    |true=>exact wp_cond_true ht (ab af K _ st h Q I M U O a w (Z true rfl) (G.set t (by simp)))
    |false=>exact wp_cond_false ht (ad ag K _ st h Q I M U O a w (Z false rfl) (G.set t (by simp)))
   ·simp at h
  ·rename_i b;cases b with
   |true=>exact wp_cond_true rfl (ab af K e st h Q I M U O a w o G)
   |false=>exact wp_cond_false rfl (ad ag K e st h Q I M U O a w o G)
  ·simp at h
 |block id body ih=>
  intro X K e st h Q I M U O a w o G
  unfold exec at h
  refine wp_block (ih (λb V=>X b (by grind[aaq])) _ e st h (Exit.inBlock id Q) I (λi J st' H w' W aa z=>?_) U O a w o G)
  show Exit.inBlock id Q (.exit i) H w'
  unfold Exit.inBlock
  by_cases hi:i=id
  ·subst hi;simp only[A8];simp only[Bg,Ad]at W;grind
  ·simp only[hi,A9];have V:Nat.beq i id=false:=by
    grind[Nat.beq,id,absurd,Nat.eq_of_beq_eq_true]
   grind
 |loop body _=>
  intro X K e st h Q I M U O a w o G
  unfold exec at h
  obtain⟨m,ah⟩:=X body (by simp[aaq]) R e st _ r h
  rw[hP]at ah
  refine wp_loop_rounds m (ah Γ rfl hn ai Q a w o G (λx J st' W aa=>?_))
  cases x with
  |exit i=>exact λH w' z=>M i _ _ _ _ W aa z
  |ret=>exact λH w' z=>U _ _ _ _ W aa z
  |pan=>exact λv H w' hp=>O _ _ v _ _ W hp
 |exit id=>intro _ K e st h Q I M U O a w o G;exact wp_exit (M _ _ _ _ _ h G o)
 |ret=>intro _ K e st h Q I M U O a w o G;exact wp_ret (U _ _ _ _ h G o)
 |rangeFunc=>grind[exec]
 |scope body ih=>
  intro X K e st h Q I M U O a w o G
  exact wp_scope_straight (ih (λb V=>X b (by grind[aaq])) K e st h (Exit.noGoto Q) I M U O a w o G)
 |label=>intro _ K e st h Q I M U O a w o G;exact wp_label (I _ _ _ _ h G o)
 |goto=>grind[exec]
 |refuse=>grind[exec]
theorem a6d{C:Cfg}(hC:acx C){body:Code}(hL:∀b,b∈aaq body->LoopOk C b){R:Type}{r:R}{K:Ks R}{e:Env}{st:List BX}(h:exec C body K e st=some r){x:LEx}{Y:Env}{st':List BX}
 {m:Nat} (X:∀G o,K.norm G o=some r->NoGd G->a2f C body m G o x Y st')
 (V:∀i G o,K.exit i G o=some r->NoGd G->x=.exit i/\∀(Γ:Ctx)(a:Act)(w:World),Γ.P=C.P->Γ.np=C.np->Rel Γ G o a w->Rel Γ Y st' a w)
 (ab:∀G o,K.ret G o=some r->NoGd G->x=.ret/\∀(Γ:Ctx)(a:Act)(w:World),Γ.P=C.P->Γ.np=C.np->Rel Γ G o a w->Rel Γ Y st' a w)
 (Z:∀s o,K.pan s o=some r->x=.pan/\∀(Γ:Ctx)(v:Value)(a:Act)(w:World),Γ.P=C.P->Γ.np=C.np->PRel Γ s o v a w->PRel Γ (Y 0) st' v a w):a2f C body (m+1) e st x Y st':=by
 intro Γ H U z Q a w aa hg hQ
 rw[rounds_succ]
 have hw:body.wp Γ.P (Exit.then (Code.rounds C.P body Q m) Q) a w:=by
  refine am2 hC H.symm U z r body hL K e st h (Exit.then (Code.rounds C.P body Q m) Q) (λG o M O W I t=>?_) (λi G o M O W I t=>?_) (λG o M O W I t=>?_) (λs o v M O W hp=>?_) a w aa hg
  ·exact X G o W I Γ H U z Q M O t I hQ
  ·obtain⟨rfl,J⟩:=V i G o W I;exact hQ M O (J Γ M O H z t)
  ·obtain⟨rfl,J⟩:=ab G o W I;exact hQ M O (J Γ M O H z t)
  ·obtain⟨rfl,J⟩:=Z s o W;exact hQ v M O (J Γ v M O H z hp)
 grind
end Go.Ab
namespace Go.Ab
open Go
section
variable{Γ:Ctx}{D:Dom}{ow:Own}{μ:Nat->Nat}{st:List BX}{w:World}
def owTo(ow:Own)(n:Nat):Own:=λb=>match ow b with|some k=>if k<n then some k else none|none=>none
theorem owTo_some{n b k:Nat}:owTo ow n b=some k ↔ ow b=some k/\k<n:=by unfold owTo;grind
theorem a1b{own:Bool}{T:TypeId}{s I:SV}{v:Value}{fz:List Nat}(H:WRel Γ D ow μ st w)(h:SRep Γ.P D w ow μ st s v)(o:bi0 Γ.P own st T s=some I)(G:∀k,k∈frozen own [s]->k∈fz):SRep Γ.P (ad0 D ow μ st fz) w ow μ st I v:=by
 have m:Moves D w ow μ st (ad0 D ow μ st fz) w ow μ st:=ai7 fz;unfold bi0 at o;split at o
 ·rename_i k;split at o
  ·rename_i K E es t;simp only[Aj]at o;subst o;cases h;obtain⟨ents,clock,kc,vc,r1,r2,r3,r4,r5,M,O,_⟩:=H.map k K E es t;exact .map (.mk kc vc r1 (Or.inr ⟨k,_,G k (by simp[frozen]),t,Or.inl ⟨K,E,es,rfl⟩,r2,rfl⟩) r4 (λi x a=>(r5 i x a).mono m.dom m.keeps) (λi x a=>(M i x a).mono m.dom m.keeps) O)
  ·simp at o
 ·rename_i k g E;cases own with
  |true=>simp only[Ad,Aj]at o;subst o;exact h.mono m
  |false=>simp only[Af]at o;grind[Option.some.injEq,a9n,frozen]
 ·simp at o
 ·simp only[Aj]at o;subst o;exact h.mono m
 ·simp only[Aj]at o;subst o;exact h.mono m
 ·simp only[Aj]at o;subst o;exact h.mono m
 ·rename_i U V;cases own with
  |true=>
   simp only[Ad]at o;split at o
   ·rename_i x z;simp only[Aj]at o;subst o;exact(ace (h.mono m) z) _ _ _
   ·simp only[Aj]at o;subst o;exact h.mono m
  |false=>
   simp only[Af]at o;have J:=aji (fz:=fz) H h (λk t=>G k (by grind[aoh,frozen]));split at o
   ·rename_i x z;simp only[Aj]at o;subst o;exact(ace J z) _ _ _
   grind
 ·cases own with
  |true=>simp only[Ad,Aj]at o;subst o;exact h.mono m
  |false=>simp only[Af]at o;exact(ace (h.mono m) o) _ _ _
 ·cases own with
  |true=>simp only[Ad,Aj]at o;subst o;exact h.mono m
  |false=>simp only[Af]at o;exact(ace (h.mono m) o) _ _ _
 ·exact(ace (h.mono m) o) _ _ _
theorem avz{own:Bool}{fz:List Nat}(V:WRel Γ D ow μ st w):∀(z:List TypeId)(ss m:List SV),akx Γ.P own st z ss=some m->(∀k,k∈frozen own ss->k∈fz)->∀(vs:List Value),(∀(i:Nat)(s:SV)(v:Value),ss[i]?=some s->vs[i]?=some v->SRep Γ.P D w ow μ st s v)->
 m.length=ss.length/\∀(i:Nat)(s:SV)(v:Value),m[i]?=some s->vs[i]?=some v->SRep Γ.P (ad0 D ow μ st fz) w ow μ st s v:=by
 intro z
 induction z with
 |nil=>
  intro ss m h G vs o
  cases ss with
  |nil=>simp[akx]at h;grind
  |cons=>simp[akx]at h
 |cons T z X=>
  intro ss m h G vs o
  cases ss with
  |nil=>simp[akx]at h
  |cons s ss=>
   simp only[akx]at h
   split at h
   ·rename_i x q W U;simp only[Aj]at h;subst h;have H:∀k,k∈frozen own [s]->k∈fz:=λk O=>G k (by cases own<;>cases s<;>simp_all[frozen]);have I:∀k,k∈frozen own ss->k∈fz:=λk O=>G k (by cases own<;>cases s<;>simp_all[frozen]);obtain⟨M,Y⟩:=X ss q U I vs.tail (λi s v t J=>o (i+1) s v (by simpa using t) (by simpa using J));refine⟨by simp[M],λi y v t J=>?_⟩;cases i with
    |zero=>simp at t;subst t;exact a1b V (o 0 s v (by simp) J) W H
    |succ i=>grind
   ·cases h
theorem ayd(hw:WRel Γ D ow μ st w){e:Env}{a:Act}(hs:Slots Γ D ow μ e st a w):∀(O:List ResultVar)(G:List SV),ayc Γ.P e st O=some G->
 ∃vs:List Value,(O.mapM λr=>(match r with|.tmp t=>pure (a.tmps.getD t Go.undef)|.cell x t=>do loadVar t (<-asAddr (a.tmps.getD x Go.undef)):Sem Value)).run Γ.P w=.ok vs w/\vs.length=G.length/\
  ∀(i:Nat)(s:SV)(v:Value),G[i]?=some s->vs[i]?=some v->SRep Γ.P D w ow μ st s v:=by
 intro O
 induction O with
 |nil=>intro G h;simp[ayc]at h;simp_all
 |cons r rr ih=>
  intro G h
  unfold ayc at h
  split at h
  ·rename_i x q z hq;simp only[Aj]at h;subst h;obtain⟨vs,X,h2,h3⟩:=ih q hq;have I:∃v,(match r with|.tmp t=>pure (a.tmps.getD t Go.undef)|.cell x t=>do loadVar t (<-asAddr (a.tmps.getD x Go.undef)):Sem Value).run Γ.P w=.ok v w/\SRep Γ.P D w ow μ st x v:=by
    unfold bg2 at z;split at z
    ·rename_i t;refine⟨a.tmps.getD t Go.undef,by simp,?_⟩;have o:=hs.slot t;split at z
     ·cases z
     ·rename_i ae;simp only[Aj]at z;subst z;cases V:e t with
      |gd u aa y=>all_goals grind
      |_=>rw[V]at o;exact o
    ·rename_i t J;split at z
     ·rename_i k U V;cases M:(Nat.beq J U&&(Γ.P.underlying J).isSome&&(aah Γ.P J||Nat.beq (Γ.P.cellsOf J) 1))with
      |false=>all_goals grind
      |true=>
       rw[M]at z;simp only[Ad]at z;simp only[Ai,A7]at M;have:=Ag M.1.1;subst this;split at z
       ·rename_i TB s Y;simp only[Aj]at z;subst z;have o:=hs.slot t;rw[V]at o;simp only[SlotRep]at o;generalize ad:a.tmps.getD t Go.undef=av at o;cases o with
        |@ref _ _ _ ab s' off H Z=>
         rw[Y]at H;cases H;simp only[acf,Aj,Prod.mk.injEq]at Z;obtain⟨rfl,rfl⟩:=Z;obtain⟨m,T2,q1,W,q3,q4,q5⟩:=hw.box k _ s Y;refine⟨pack Γ.P TB m,?_,q5⟩;have hl:=aem M.1.2 w (μ k) 0 m (λj v hj=>by all_goals grind[World.cell?]) (λ_=>W) (λha=>by
          have X:Γ.P.cellsOf TB=1:=by all_goals grind[Nat.eq_of_beq_eq_true]
          rw[X]at W;match m,W with
          |[u],_=>all_goals grind)
         all_goals grind[asAddr,Sem.run_bind,Sem.run_pure,Result.andThen_ok]
       ·simp at z
     ·simp at z
   obtain⟨v,af,ag⟩:=I;refine⟨v::vs,?_,by simp[h2],λi s u hi hu=>?_⟩;all_goals grind[Sem.run_bind,Result.andThen_ok,Sem.run_pure]
  ·simp at h
theorem Objs.more{P:Program}{D':Dom}(h:Objs P D ow μ st w)(V:∀b o,D b o->D' b o)(O:∀b o,D' b o->D b o\/(ow b=none/\b<w.heap.size)):Objs P D' ow μ st w:=by
 have t:∀b k,ow b=some k->∀o,D' b o->D b o:=λb k H o d=>(O b o d).resolve_right (λhh=>by grind);have m:Moves D w ow μ st D' w ow μ st:=⟨V,Keeps.refl _ _,λk T s e=>⟨rfl,s,e⟩,λk K E es e=>⟨rfl,es,e⟩,λk b e _=>⟨rfl,b,e,rfl⟩,λk E g xs e=>⟨g,xs,e,Nat.le_refl _,λ_=>⟨rfl,ArrKeep.refl _ _ _ _ _⟩⟩,λk g e=>⟨g,e,Nat.le_refl _,λ_ b H=>⟨rfl,H,t b k H⟩⟩⟩;refine⟨λk b W=>?_,h.owlt,λb o d=>?_,λb k x H e X o d=>h.lone b k x H e X o (t b k H o d)⟩
 ·have G:=h.obj k b W;cases b with
  |box T s=>obtain⟨c,U,M,I,J,Y,Z⟩:=G;exact⟨c,U,M,I,J,λo d=>Y o (t _ k J o d),Z.mono m⟩
  |map K E es=>obtain⟨ents,clock,kc,vc,M,I,J⟩:=G;exact OMapRep.mono ⟨ents,clock,kc,vc,M,I,J⟩ m.dom m.keeps rfl rfl I (λo d=>J.1 o (t _ k I o d))
  |acc g=>trivial
  |hole=>trivial
  |iter s p=>exact ObjRep.mono (P:=P) (b:=.iter s p) G m.dom m.keeps (λ_=>rfl) (λc z=>⟨rfl,z,t c k z⟩)
  |mit K E c es=>exact ObjRep.mono (P:=P) (b:=.mit K E c es) G m.dom m.keeps (λ_=>rfl) (λc z=>⟨rfl,z,t c k z⟩)
  |bld T bs=>exact ObjRep.mono (P:=P) (b:=.bld T bs) G m.dom m.keeps (λ_=>rfl) (λc z=>⟨rfl,z,t c k z⟩)
  |arr E g xs=>exact ObjRep.mono (P:=P) (b:=.arr E g xs) G m.dom m.keeps (λ_=>rfl) (λc z=>⟨rfl,z,t c k z⟩)
 ·rcases O b o d with d|d
  ·exact h.dlt b o d
  ·exact d.2
theorem a5f(W:WRel Γ D ow μ st w){e:Env}{a:Act}(hs:Slots Γ D ow μ e st a w){ts:List TypeId}{rs:List ResultVar}{V:List SV}{sub:List BX}{own:Bool}(h:aup Γ.P own e st Γ.np ts rs=some (V,sub)):
 ∃vs:List Value,(rs.mapM λr=>(match r with|.tmp t=>pure (a.tmps.getD t Go.undef)|.cell x t=>do loadVar t (<-asAddr (a.tmps.getD x Go.undef)):Sem Value)).run Γ.P w=.ok vs w/\
  ∃(D':Dom)(ks:List Nat),ks.Nodup/\(∃r,ks=List.range Γ.np++r)/\ah4 st (acr ks) (akm st) ks=some sub/\(∀b o,D b o->D' b o)/\(∀b o,D' b o->D b o\/∃k,ow b=some k/\Γ.np<=k)/\
   Objs Γ.P D' (ags ow ks) (λj=>μ (ks.getD j 0)) sub w/\SRep Γ.P D' w (ags ow ks) (λj=>μ (ks.getD j 0)) sub (adk V) (if h:vs.toArray.size=1 then vs.toArray[0]else .tuple vs.toArray):=by
 unfold aup at h
 split at h
 ·cases h
 ·rename_i z U;split at h
  ·cases h
  ·rename_i m J;obtain⟨vs,h1,h2,h3⟩:=ayd W hs rs z U;cases X:(frozen own z).all (λk=>!((agh own st Γ.np m).any (Nat.beq k)))with
   |false=>grind
   |true=>
    rw[X]at h;simp only[Ad]at h;split at h
    ·rename_i ad aa hr G;simp only[Aj,Prod.mk.injEq]at h;obtain⟨rfl,rfl⟩:=h;have Z:=an1 own st Γ.np m;obtain⟨r,O⟩:=alh own st Γ.np m;generalize agh own st Γ.np m=ks at*;have M:∀k,k∈frozen own z->k∉ks:=by
      grind[List.all_eq_true,Nat.beq,List.any_eq_true,Nat.beq_refl]
     obtain⟨l1,l2⟩:=avz (fz:=frozen own z) W ts z m J (λk hk=>hk) vs h3;have I:∀b k,k∉ks->ow b=some k->ags ow ks b=none:=λb k hk ob=>ane (λk' ab e=>by grind);refine⟨vs,h1,ad0 D ow μ st (frozen own z),ks,Z,⟨r,O⟩,G,λ_ _ d=>Or.inl d,λb o d=>?_,?_,?_⟩
     ·grind[aec,Nat.lt_or_ge,absurd]
     ·refine(W.objs.sub Z G).more (λ_ _ d=>Or.inl d) (λb o d=>?_);rcases aec d with d|⟨k,k1,k2,k3⟩
      ·exact Or.inl d
      ·exact Or.inr ⟨I b k (M k k1) k2,(W.owlt b k k2).1⟩
     ·refine ayo (Emb.sub Z G) ?_ hr;by_cases H:vs.length=1
      ·obtain⟨v,rfl⟩:=List.length_eq_one_iff.1 H;obtain⟨s,rfl⟩:=List.length_eq_one_iff.1 (show m.length=1 by omega);simpa[adk]using l2 0 s v rfl rfl
      ·have Y:m.length≠1:=by omega
       have hr:adk m=.tup m:=by
        match m,Y with
        |[],_=>rfl
        |[x],h2=>grind
        |x::y::r,_=>rfl
       rw[hr,dif_neg (by simpa using H)];exact .tup (by simp;omega) (λi s v hi hv=>l2 i s v hi (by simpa using hv))
    ·cases h
end
theorem ahe {C:Cfg} (hC:acx C) {f:FuncId}{fn:Func}{c:Code} (hf:C.P.funcs[f]?=some fn) (hb:fn.body=some c) (hn:fn.ntmps=C.n) (ai:(fn.name== "runtime.NumGoroutine")=false) (hL:∀ body,body∈aaq c->LoopOk C body)
 {R:Type}{X:List SV}{st:List BX}{K:List SV->List BX->Option R}{r:R}{W:List SV}{af:List BX} (h:alg C fn X st K=some r) (aB:X.length<=C.n) (ar:st.length=C.np)
 (hK:∀rs s,K rs s=some r->∀(D:Dom)(w:World)(ow:Own)(μ:Nat->Nat)(v:Value)(D':Dom)(w':World),Post C.P D w ow μ st rs s v D' w'->Post C.P D w ow μ st W af v D' w'/\aig W v=aig rs v):Meets C.P f X st W af:=by
 refine⟨aa1 hf ai (by rw[hb];rfl),λD ow μ w z G=>?_⟩
 unfold alg at h
 rw[hb]at h
 simp only at h
 refine calls_of_wp hf hb ?_
 let Γ:Ctx:={ P:=C.P,n:=C.n,B:=w.heap.size,w0:=w,D0:=D,ow0:=ow,np:=st.length,μ0:=μ,K0:=λk=>match st[k]? with|some b=>b.kind|none=>[],L0:=λk=>match st[k]? with|some (.arr _ _ xs)=>xs.length|_=>0,hB:=rfl,tabs:=G.tabs }
 have hw:WRel Γ D ow μ st w:=by
  refine⟨λk T s e=>G.objs.obj k _ e,λk K E es e=>G.objs.obj k _ e,λk b e=>?_,G.objs.owlt,G.objs.dlt,rfl,rfl,rfl,Nat.le_refl _,λ_ _ _=>rfl,λ_ _ d=>d,λ_ _ d=>Or.inl d,λ_ _ h _=>h,Nat.le_refl _,λ_ _ _=>rfl,λk V=>?_,G.objs.lone,Keeps.refl _ _,λk V E xs e=>⟨?_,ArrKeep.refl _ _ _ _ _⟩⟩
  ·have h0:=G.objs.obj k b e;cases b with
   |box T s=>trivial
   |map K E es=>trivial
   |acc g=>trivial
   |hole=>trivial
   |_=>exact h0
  ·have aC:st[k]?=some st[k]:=Ap V;grind
  grind
 have av:Slots Γ D ow μ (as5 X) st { tmps:=z++Array.replicate (fn.ntmps-z.size) Go.undef,defers:=[] } w:=by
  refine⟨by show(z++_).size=C.n;have:=G.size;simp;omega,rfl,λt=>?_⟩;unfold as5;by_cases ht:t<X.length
  ·have h1:X[t]?=some X[t]:=Ap ht;have aj:t<z.size:=by rw[G.size];exact ht
   have h2:z[t]?=some z[t]:=Array.getElem?_eq_getElem aj;have e1:X.getD t .undef=X[t]:=by grind
   have e2:(z++Array.replicate (fn.ntmps-z.size) Go.undef).getD t Go.undef=z[t]:=by
    have e:∀(x:Array Value),x.getD t Go.undef=(x[t]?).getD Go.undef:=λx=>by simp
    grind
   show SlotRep _ _ _ _ _ _ _ (X.getD t .undef) ((z++Array.replicate (fn.ntmps-z.size) Go.undef).getD t Go.undef);rw[e1,e2];exact(G.arg t _ _ h1 h2).slot
  ·have e1:X.getD t .undef=.undef:=by grind
   rw[e1];exact .undef
 have aq:NoGd (as5 X):=by
  intro t u aA x he;unfold as5 at he;by_cases ht:t<X.length
  ·have h1:X[t]?=some X[t]:=Ap ht;have aj:t<z.size:=by rw[G.size];exact ht
   have:=G.arg t _ _ h1 (Array.getElem?_eq_getElem aj);have e1:X.getD t .undef=X[t]:=by grind
   rw[e1]at he;rw[he]at this;cases this
  grind
 have am:∀(rs:List SV)(s':List BX)(v:Value)(w':World)(D1 D':Dom)(M:Own)(O:Nat->Nat)(st':List BX)(ks r':List Nat),K rs s'=some r->WRel Γ D1 M O st' w'->ks.Nodup->ks=List.range st.length++r'->ah4 st' (acr ks) (akm st') ks=some s'->
  (∀b o,D1 b o->D' b o)->(∀b o,D' b o->D1 b o\/∃k,M b=some k/\st.length<=k)->Objs C.P D' (ags M ks) (λj=>O (ks.getD j 0)) s' w'->aia C.P D' w' (ags M ks) (λj=>O (ks.getD j 0)) s' rs v->
  Post C.P D w ow μ st W af v D' w'/\aig W v=aig rs v:=by
  intro rs s' v w' D1 D' M O st' ks r' V m ae aa U hD hN Z J
  have ab:∀k,k<st.length->ks[k]?=some k:=by grind
  obtain⟨l1,l2⟩:=ajw ks s' U
  refine hK rs s' V D w ow μ _ D' w' ⟨λb o d=>hD b o (m.dom0 b o d),λb o d=>?_,⟨ags M ks,λj=>O (ks.getD j 0),Z,J,λb j hb ah=>?_,λk b ag=>?_,λk E g xs ys ag ad=>?_⟩,m.os,m.tape,m.output,m.hs,m.old,m.keep0⟩
  ·rcases hN b o d with d|⟨k,k1,k2⟩
   ·exact m.domN b o d
   ·rcases Nat.lt_or_ge b w.heap.size with ah|aD
    ·have h0:=m.owN b k k1 ah;grind
    grind
  ·obtain⟨k,hj,au⟩:=ae5 hb;have h0:=m.owN b k au ah;have I:=(G.objs.owlt b k h0).2;grind[aqw]
  ·have I:=(A6.1 ag).1;obtain⟨x,hx,p1⟩:=m.par k I;obtain⟨b1,b2,q1,q2,q3⟩:=l2 k k (ab k I);rw[hx]at q1;cases q1;have hK:Γ.K0 k=b.kind:=by grind
   refine⟨b2,q3,(acw q2).1.trans (p1.trans hK),λ_ ay=>?_⟩;have e:ks.getD k 0=k:=by grind
   show O (ks.getD k 0)=μ k;rw[e];refine m.mu0 k I (λE hE=>?_);rw[hK]at hE;obtain⟨g,xs,rfl⟩:=ajk hE;grind
  ·have I:=(A6.1 ag).1;obtain⟨b1,b2,q1,q2,q3⟩:=l2 k k (ab k I);rw[ad]at q3;cases q3;obtain⟨g1,zs,rfl⟩:=ajk (acw q2).1.symm;have aw:=(acw q2).2.2 _ _ _ rfl;have az:akm st' k=(bif Nat.beq g1 0 then 0 else 1):=by grind[akm]
   injection aw with _ q4 q5;subst q5;have ap:g1=0:=by grind[Nat.beq,Nat.eq_of_beq_eq_true]
   subst ap;obtain⟨r1,r2⟩:=m.arr0 k I E ys q1;have hL:Γ.L0 k=xs.length:=by grind
   refine⟨r1.trans hL,λao hc ho=>?_⟩;obtain⟨t1,t2,ax,t3,t4⟩:=r2 ao hc ho;grind[List.getD,avm]
 have fin:∀e' st' a' w',(match aup C.P C.own e' st' st.length fn.resultTypes.toList fn.results.toList with|some (rs,s')=>K rs s'|none=>none)=some r->Rel Γ e' st' a' w'->
  a'.defers=[]/\∃v,(results fn a'.tmps).run C.P w'=.ok v w'/\∃an D',Ending.returned v=aig W an/\Post C.P D w ow μ st W af an D' w':=by
  intro e' st' a' w' V Y
  obtain⟨D1,M,O,m,ad⟩:=Y
  split at V
  ·rename_i rs s' H;obtain⟨vs,h1,D',ks,ae,⟨r',aa⟩,U,hD,hN,Z,J⟩:=a5f m ad H;obtain⟨J,al⟩:=aiz J;obtain⟨hp,he⟩:=am rs s' _ w' D1 D' M O st' ks r' V m ae aa U hD hN Z J;refine⟨ad.defers,if h:vs.toArray.size=1 then vs.toArray[0]else .tuple vs.toArray,?_,_,D',(he.trans al).symm,hp⟩;unfold results;rw[Sem.run_bind,Array.mapM_eq_mapM_toList,Sem.run_map];exact congrArg (λr:Result (List Value)=>(r.andThen λa w'=>Result.ok a.toArray w').andThen λa w'=>Sem.run C.P (pure (if h:a.size=1 then a[0]else Value.tuple a)) w') (h1:_=_)
  ·simp at V
 have H:=am2 (Γ:=Γ) hC rfl rfl ar r c hL _ (as5 X) st h (bodyPost C.P fn (λe w'=>∃v D',e=aig W v/\Post C.P D w ow μ st W af v D' w'))
  (λe' st' a' w' V _ Y=>fin e' st' a' w' V Y) (λi e' st' a' w' V _ _=>by simp at V) (λe' st' a' w' V _ Y=>fin e' st' a' w' V Y) (λs st' v a' w' V hp=>?_) _ w ⟨D,ow,μ,hw,av⟩ aq
 ·exact H
 obtain⟨ak,D1,M,O,m,ad⟩:=hp
 refine⟨ak,?_⟩
 simp only at V
 split at V
 ·rename_i rs s' H;unfold a9e at H;split at H
  ·rename_i T x;split at H
   ·rename_i x' sub hc U;simp only[Aj,Prod.mk.injEq]at H;obtain⟨rfl,rfl⟩:=H;have ae:=an1 false st' st.length [];obtain⟨r',aa⟩:=alh false st' st.length [];have J:aia C.P D1 w' (ags M (agh false st' st.length [])) (λj=>O ((agh false st' st.length []).getD j 0)) sub [.pan (.ifc T x')] v:=by
     cases ad with
     |ifc hu=>exact .ifc (ace hu hc _ _ _)
    obtain⟨hp,he⟩:=am _ _ v w' D1 D1 M O st' _ r' V m ae aa U (λ_ _ d=>d) (λ_ _ d=>Or.inl d) (m.objs.sub ae U) J;exact⟨v,D1,he.symm,hp⟩
   ·cases H
  ·cases H
 ·cases V
end Go.Ab
namespace Go.Ab
open Go
inductive Shape where
 |bool
 |int (k:IntKind)
 |str
 |slice (E:TypeId)
 |data (T:TypeId)
 |map (K E:TypeId)
 |acc (k:Nat) (E:TypeId)
 |pto (T:TypeId)
 |raw
 |eif
 |ifc (T:TypeId)
 |ifs (T E:TypeId)
 |sln (E:TypeId)
 |con (s:SV)
@[reducible] def Shape.ty:Shape->Type
 |.bool=>Bool
 |.int _=>Int
 |.str=>Bn
 |.slice _=>List PV
 |.data _=>PV
 |.map _ _=>List (PV×PV)
 |.acc _ _=>List PV
 |.pto _=>PV
 |.raw=>Value
 |.eif=>Bool
 |.ifc _=>PV
 |.ifs _ _=>List PV
 |.sln _=>List PV
 |.con _=>Unit
def unGd(s:SV):SV:=match s with|.gd _ _ _=>.undef|s=>s
@[reducible] def Shape.enc:(s:Shape)->s.ty->SV
 |.bool,b=>.bool b
 |.int k,n=>.int k n
 |.str,s=>.str s
 |.slice E,xs=>.slice E xs
 |.data T,v=>.data T v
 |.map K E,es=>.map K E es
 |.acc k E,xs=>.acc k 0 E xs
 |.pto T,v=>.pto T v
 |.raw,v=>.raw v
 |.eif,b=>.eif b
 |.ifc T,v=>.ifc T (.data T v)
 |.ifs T E,xs=>.ifc T (.slice E xs)
 |.sln E,xs=>.sln E xs
 |.con c,_=>unGd c
def beqN:List Nat->List Nat->Bool
 |[],[]=>true
 |x::r,y::q=>Nat.beq x y&&beqN r q
 |_,_=>false
theorem bha:∀{a b:List Nat},beqN a b=true->a=b:=by
 intro a;induction a with
 |nil=>grind[beqN]
 |cons x r m=>
  intro b h;cases b with
  |nil=>simp[beqN]at h
  |cons y q=>simp only[beqN,Ai]at h;grind[Nat.eq_of_beq_eq_true]
def ata(a b:SV):Bool:=
 match a,b with
 |.ref k p T,.ref m p' o=>Nat.beq k m&&beqN p p'&&Nat.beq T o
 |.mref k,.mref m=>Nat.beq k m
 |.mitr k,.mitr m=>Nat.beq k m
 |.iref k,.iref m=>Nat.beq k m
 |.bref k T,.bref m o=>Nat.beq k m&&Nat.beq T o
 |.nils,.nils=>true
 |.arr k g E,.arr m z t=>Nat.beq k m&&Nat.beq g z&&Nat.beq E t
 |_,_=>false
theorem apf{a b:SV}(h:ata a b=true):a=b:=by
 unfold ata at h;split at h
 ·simp only[Ai]at h;all_goals grind[Nat.eq_of_beq_eq_true,bha]
 all_goals simp_all
def amx:List SV->List SV->Bool
 |[],[]=>true
 |x::r,y::q=>ata x y&&amx r q
 |_,_=>false
theorem a4r:∀{a b:List SV},amx a b=true->a=b:=by
 intro a;induction a with
 |nil=>grind[amx]
 |cons x r m=>
  intro b h;cases b with
  |nil=>simp[amx]at h
  |cons y q=>simp only[amx,Ai]at h;grind[apf]
def a2i(a b:SV):Bool:=
 match a,b with
 |.fn f n cs,.fn t z m=>Nat.beq f t&&Nat.beq n z&&amx cs m
 |.ifc T a,.ifc o b=>Nat.beq T o&&ata a b
 |a,b=>ata a b
theorem a8f{a b:SV}(h:a2i a b=true):a=b:=by
 unfold a2i at h;split at h
 ·simp only[Ai]at h;grind[Nat.eq_of_beq_eq_true,a4r]
 ·simp only[Ai]at h;grind[Nat.eq_of_beq_eq_true,apf]
 ·exact apf h
@[reducible] def Shape.get:(s:Shape)->SV->Option s.ty
 |.bool,.bool b=>some b
 |.int k,.int t n=>bif decide (k=t)then some n else none
 |.str,.str s=>some s
 |.slice E,.slice m xs=>bif Nat.beq E m then some xs else none
 |.data T,.data o v=>bif Nat.beq T o then some v else none
 |.map K E,.map z m es=>bif Nat.beq K z&&Nat.beq E m then some es else none
 |.acc k E,.acc t 0 m xs=>bif Nat.beq k t&&Nat.beq E m then some xs else none
 |.pto T,.pto o v=>bif Nat.beq T o then some v else none
 |.raw,.raw v=>some v
 |.eif,.eif b=>some b
 |.ifc T,.ifc o (.data G v)=>bif Nat.beq T o&&Nat.beq T G then some v else none
 |.ifs T E,.ifc o (.slice m xs)=>bif Nat.beq T o&&Nat.beq E m then some xs else none
 |.con c,s=>bif a2i s c then some ()else none
 |_,_=>none
theorem aaz{α:Type}{b:Bool}{x y:α}(h:(bif b then some x else none)=some y):b=true/\x=y:=by grind
theorem Shape.get_spec{o:Shape}{s:SV}{x:o.ty}(h:o.get s=some x):s=o.enc x:=by
 unfold Shape.get at h;split at h
 ·cases h;rfl
 ·grind
 ·cases h;rfl
 ·obtain⟨m,rfl⟩:=aaz h;grind[Nat.eq_of_beq_eq_true]
 ·obtain⟨m,rfl⟩:=aaz h;grind[Nat.eq_of_beq_eq_true]
 ·obtain⟨m,rfl⟩:=aaz h;simp_all
 ·obtain⟨m,rfl⟩:=aaz h;simp_all
 ·obtain⟨m,rfl⟩:=aaz h;grind[Nat.eq_of_beq_eq_true]
 ·cases h;rfl
 ·cases h;rfl
 ·obtain⟨m,rfl⟩:=aaz h;simp only[Ai]at m;grind[Nat.eq_of_beq_eq_true]
 ·obtain⟨m,rfl⟩:=aaz h;simp_all
 ·obtain⟨m,t⟩:=aaz h;have:=a8f m;subst this;show _=unGd _;unfold unGd;grind[a2i,ata]
 ·cases h
@[reducible] def TyL:List Shape->Type
 |[]=>Unit
 |[s]=>s.ty
 |s::t::r=>s.ty×TyL (t::r)
def encL:(l:List Shape)->TyL l->List SV
 |[],_=>[]
 |[s],x=>[s.enc x]
 |s::t::r,x=>s.enc x.1::encL (t::r) x.2
def getL:(l:List Shape)->List SV->Option (TyL l)
 |[],[]=>some ()
 |[s],[v]=>s.get v
 |s::t::r,v::vs=>match s.get v,getL (t::r) vs with|some x,some y=>some (x,y)|_,_=>none
 |_,_=>none
theorem axl:∀(l:List Shape)(vs:List SV)(x:TyL l),getL l vs=some x->vs=encL l x:=by
 intro l;induction l with
 |nil=>intro vs x h;cases vs with|nil=>rfl|cons=>simp[getL]at h
 |cons s r G=>
  intro vs x h;cases r with
  |nil=>
   match vs with
   |[]=>simp[getL]at h
   |[v]=>simp only[getL]at h;simp only[encL];rw[Shape.get_spec h]
   |_::_::_=>simp[getL]at h
  |cons t r=>
   match vs with
   |[]=>simp[getL]at h
   |v::vs=>
    simp only[getL]at h;split at h
    ·rename_i y z m o;simp only[Aj]at h;subst h;show v::vs=_::_;rw[G vs z o,Shape.get_spec m]
    ·cases h
theorem bhk:∀(l:List Shape)(x:TyL l),(encL l x).length=l.length:=by
 intro l;induction l with
 |nil=>intro x;rfl
 |cons s r m=>
  intro x;cases r with
  |nil=>rfl
  |cons t r=>grind[encL]
theorem a2s(o:Shape)(x:o.ty)(u:Nat)(m:Bool)(y:SV):o.enc x≠.gd u m y:=by
 cases o<;>simp only[Shape.enc]<;>first|exact(by intro h;cases h)|skip
 unfold unGd;grind
theorem a8w:∀(l:List Shape)(x:TyL l)(u:Nat)(m:Bool)(y:SV),SV.gd u m y∉encL l x:=by
 intro l;induction l with
 |nil=>grind[encL]
 |cons s r o=>
  intro x u m y h;cases r with
  |nil=>grind[encL,List.mem_singleton,a2s]
  |cons t r=>grind[encL,a2s]
inductive Pat where
 |leaf
 |agg (T:TypeId) (ps:List Pat)
inductive BSh where
 |box (T:TypeId) (p:Pat)
 |acc
 |map (K E:TypeId)
 |iter
 |bld (T:TypeId)
 |arr (E:TypeId) (fl:Nat)
 |mit (K E:TypeId)
def alf:List Nat->List SV->Env
 |t::ts,v::vs=>λu=>bif Nat.beq u t then v else alf ts vs u
 |_,_=>λ_=>.undef
mutual
def Pat.build:Pat->List SV->SV×List SV
 |.leaf,v::vs=>(v,vs)
 |.leaf,[]=>(.undef,[])
 |.agg T ps,vs=>(.agg T (aj2 ps vs).1,(aj2 ps vs).2)
def aj2:List Pat->List SV->List SV×List SV
 |[],vs=>([],vs)
 |p::ps,vs=>((p.build vs).1::(aj2 ps (p.build vs).2).1,(aj2 ps (p.build vs).2).2)
end
def toSt:List BSh->List SV->List BX
 |.acc::r,vs=>.acc 0::toSt r vs
 |.box T p::r,vs=>.box T (p.build vs).1::toSt r (p.build vs).2
 |.map K E::r,v::vs=>.map K E (match v with|.map _ _ es=>es|_=>[])::toSt r vs
 |.iter::r,v::u::vs=>.iter (match v with|.str s=>s|_=>[]) (match u with|.int _ n=>n.toNat|_=>0)::toSt r vs
 |.bld T::r,v::vs=>.bld T (match v with|.str s=>s|_=>[])::toSt r vs
 |.arr E m::r,v::vs=>.arr E m (match v with|.slice _ xs=>xs|_=>[])::toSt r vs
 |.mit K E::r,v::vs=>.mit K E none (match v with|.map _ _ es=>es|_=>[])::toSt r vs
 |_,_=>[]
def bc3(bs:List BSh)(k:Nat):Bool:=match bs[k]? with|some .acc=>true|_=>false
def bjq(bs:List BSh)(k:Nat):Bool:=match bs[k]? with|some (.box _ _)=>true|_=>false
def bkr(bs:List BSh)(k:Nat):Bool:=match bs[k]? with|some (.map _ _)=>true|_=>false
def bgq(bs:List BSh)(k:Nat):Bool:=match bs[k]? with|some .iter=>true|_=>false
def bkt(bs:List BSh)(k:Nat):Bool:=match bs[k]? with|some (.mit _ _)=>true|_=>false
def bjo(bs:List BSh)(k:Nat):Bool:=match bs[k]? with|some (.bld _)=>true|_=>false
def am6(bs:List BSh)(s:SV):Bool:=
 match s with
 |.ref k _ _=>bjq bs k
 |.mref k=>bkr bs k
 |.mitr k=>bkt bs k
 |.iref k=>bgq bs k
 |.bref k _=>bjo bs k
 |.nils=>true
 |_=>false
def au6(bs:List BSh)(s:SV):Bool:=
 match s with
 |.fn _ _ cs=>cs.all (am6 bs)
 |s=>am6 bs s
def as7(bs:List BSh)(k m:Nat)(E:TypeId):Bool:=match bs[k]? with|some (.arr E' fl')=>Nat.beq E E'&&Nat.beq m fl'|_=>false
def alu(P:Program)(st:List BX)(bs:List BSh)(G:Shape)(s:SV):Option SV:=
 match G with
 |.acc k E=>
  match s with
  |.acc t g o xs=>bif Nat.beq k t&&Nat.beq E o&&apb st k g&&bc3 bs k then some (.acc k 0 E xs)else none
  |.nils=>bif bc3 bs k then some (.acc k 0 E [])else none
  |_=>none
 |.slice E=>match s with|.nils=>some (.slice E [])|s=>canon P none s
 |.con c=>
  match c with
  |.arr k m E=>
   match s with
   |.arr t g o=>bif Nat.beq k t&&Nat.beq E o&&afz st k g&&as7 bs k m E then some (.arr k m E)else none
   |.nils=>bif as7 bs k m E&&Nat.ble st.length k then some (.arr k m E)else none
   |_=>none
  |.ifc T (.arr k m E)=>
   match s with
   |.ifc z (.arr t g o)=>bif Nat.beq T z&&(Nat.beq k t&&Nat.beq E o&&afz st k g&&as7 bs k m E)then some (.ifc T (.arr k m E))else none
   |_=>none
  |_=>bif au6 bs s then some s else none
 |.ifc _=>match s with|.ifc T x=>(match canon P none x with|some y=>some (.ifc T y)|none=>none)|_=>none
 |.ifs _ E=>match s with|.ifc T .nils=>some (.ifc T (.slice E []))|.ifc T x=>(match canon P none x with|some y=>some (.ifc T y)|none=>none)|_=>none
 |_=>canon P none s
def agr(P:Program)(st:List BX)(bs:List BSh)(e:Env):List Nat->List Shape->Option (List SV)
 |[],_=>some []
 |t::ts,sh::shs=>match alu P st bs sh (e t),agr P st bs e ts shs with|some v,some vs=>some (v::vs)|_,_=>none
 |_::_,[]=>none
mutual
def ahz(P:Program)(st:List BX)(bs:List BSh):Pat->SV->List Shape->Option (List SV×List Shape)
 |.leaf,s,sh::m=>match alu P st bs sh s with|some v=>some ([v],m)|none=>none
 |.leaf,_,[]=>none
 |.agg T ps,s,m=>match ahx P T s with|some fs=>aff P st bs ps fs m|none=>none
def aff(P:Program)(st:List BX)(bs:List BSh):List Pat->List SV->List Shape->Option (List SV×List Shape)
 |[],[],shs=>some ([],shs)
 |p::ps,s::ss,shs=>
  match ahz P st bs p s shs with
  |some (vs,m)=>match aff P st bs ps ss m with|some (ws,shs2)=>some (vs++ws,shs2)|none=>none
  |none=>none
 |_,_,_=>none
end
def afu(P:Program)(t:List BX)(o:List BSh):List BSh->List BX->List Shape->Option (List SV)
 |[],_,_=>some []
 |.acc::r,[],m=>afu P t o r [] m
 |.acc::r,.acc _::st,m=>afu P t o r st m
 |.box T p::r,.box I s::st,m=>
  bif Nat.beq T I then
   match ahz P t o p s m with
   |some (vs,G)=>match afu P t o r st G with|some ws=>some (vs++ws)|none=>none
   |none=>none
  else none
 |.map K E::r,.map H z es::st,_::m=>bif Nat.beq K H&&Nat.beq E z then(match afu P t o r st m with|some vs=>some (.map K E es::vs)|_=>none)else none
 |.iter::r,.iter s p::st,_::_::m=>(match afu P t o r st m with|some vs=>some (.str s::.int .i64 p::vs)|_=>none)
 |.bld T::r,.bld I s::st,_::m=>bif Nat.beq T I then(match afu P t o r st m with|some vs=>some (.str s::vs)|_=>none)else none
 |.arr E _::r,[],_::m=>(match afu P t o r [] m with|some vs=>some (.slice E []::vs)|_=>none)
 |.arr E J::r,.arr z g xs::st,_::m=>bif Nat.beq E z&&(bif Nat.beq J 0 then Nat.beq g 0 else true)then(match afu P t o r st m with|some vs=>some (.slice E xs::vs)|_=>none)else none
 |.mit K E::r,.mit H z _ es::st,_::m=>bif Nat.beq K H&&Nat.beq E z then(match afu P t o r st m with|some vs=>some (.map K E es::vs)|_=>none)else none
 |_,_,_=>none
structure Frame where
 slots:List Nat
 bs:List BSh
 sh:List Shape
@[reducible] def Frame.ty(F:Frame):Type:=TyL F.sh
def Frame.env(F:Frame)(x:F.ty):Env:=alf F.slots (encL F.sh x)
def Frame.st(F:Frame)(x:F.ty):List BX:=toSt F.bs ((encL F.sh x).drop F.slots.length)
def Frame.dec(F:Frame)(P:Program)(e:Env)(st:List BX):Option F.ty:=
 match agr P st F.bs e F.slots F.sh,afu P st F.bs F.bs st (F.sh.drop F.slots.length)with
 |some vs,some m=>getL F.sh (vs++m)
 |_,_=>none
theorem a5d:∀(o:List Nat)(vs:List SV),(∀u m y,SV.gd u m y∉vs)->NoGd (alf o vs):=by
 intro o;induction o with
 |nil=>intro vs _ t u m x h;simp[alf]at h
 |cons t o J=>
  intro vs I z u m x h;cases vs with
  |nil=>simp[alf]at h
  |cons v vs=>
   simp only[alf]at h;cases G:Nat.beq z t with
   |true=>grind
   |false=>rw[G]at h;exact J vs (λu m y H=>I u m y (List.mem_cons_of_mem _ H)) z u m x h
theorem Frame.noGd(F:Frame)(x:F.ty):NoGd (F.env x):=a5d _ _ (a8w F.sh x)
theorem asm{P:Program}{st:List BX}{bs:List BSh}{e:Env}:∀(o:List Nat)(m:List Shape)(vs:List SV),agr P st bs e o m=some vs->vs.length=o.length/\∀t,alf o vs t=.undef\/∃z,alu P st bs z (e t)=some (alf o vs t):=by
 intro o;induction o with
 |nil=>intro m vs h;simp[agr]at h;subst h;exact⟨rfl,λt=>Or.inl rfl⟩
 |cons t o G=>
  intro m vs h;cases m with
  |nil=>simp[agr]at h
  |cons z m=>grind[agr,alf,Nat.beq,Nat.eq_of_beq_eq_true]
mutual
theorem aip{P:Program}{st:List BX}{bs:List BSh}:∀(p:Pat)(s:SV)(t:List Shape)(vs:List SV)(o:List Shape)(m:List SV),ahz P st bs p s t=some (vs,o)->(p.build (vs++m)).2=m
 |.leaf,s,sh::t,vs,o,m,h=>by
  simp only[ahz]at h;split at h
  ·simp only[Aj,Prod.mk.injEq]at h;obtain⟨rfl,rfl⟩:=h;rfl
  ·cases h
 |.leaf,s,[],vs,o,m,h=>by simp[ahz]at h
 |.agg T ps,s,t,vs,o,m,h=>by
  simp only[ahz]at h;split at h
  ·rename_i z _;exact alv ps z t vs o m h
  ·cases h
theorem alv{P:Program}{st:List BX}{bs:List BSh}:∀(ps:List Pat)(ss:List SV)(t:List Shape)(vs:List SV)(o:List Shape)(m:List SV),aff P st bs ps ss t=some (vs,o)->(aj2 ps (vs++m)).2=m
 |[],[],t,vs,o,m,h=>by simp only[aff,Aj,Prod.mk.injEq]at h;obtain⟨rfl,rfl⟩:=h;rfl
 |[],_::_,t,vs,o,m,h=>by simp[aff]at h
 |_::_,[],t,vs,o,m,h=>by simp[aff]at h
 |p::ps,s::ss,t,vs,o,m,h=>by
  simp only[aff]at h;split at h
  ·rename_i G z J;split at h
   ·rename_i I H M;simp only[Aj,Prod.mk.injEq]at h;obtain⟨rfl,rfl⟩:=h;simp only[aj2,Aq];rw[aip p s t G z (I++m) J];exact alv ps ss z I _ m M
   ·cases h
  ·cases h
end
structure StFit(P:Program)(st0:List BX)(bs0 bs:List BSh)(st st':List BX):Prop where
 len:st'.length=bs.length
 acc:∀(k:Nat),bs[k]?=some .acc->st'[k]?=some (.acc 0)/\((∃(g:Nat),st[k]?=some (.acc g))\/st.length<=k)
 box:∀(k:Nat)(T:TypeId)(p:Pat),bs[k]?=some (.box T p)->∃(s:SV)(vs rest:List SV)(shs shs':List Shape),st[k]?=some (.box T s)/\ahz P st0 bs0 p s shs=some (vs,shs')/\st'[k]?=some (.box T (p.build (vs++rest)).1)
 map:∀(k:Nat)(K E:TypeId),bs[k]?=some (.map K E)->∃(es:List (PV×PV)),st[k]?=some (.map K E es)/\st'[k]?=some (.map K E es)
 iter:∀(k:Nat),bs[k]?=some .iter->∃(s:Bn)(p:Nat),st[k]?=some (.iter s p)/\st'[k]?=some (.iter s p)
 bld:∀(k:Nat)(T:TypeId),bs[k]?=some (.bld T)->∃(s:Bn),st[k]?=some (.bld T s)/\st'[k]?=some (.bld T s)
 arr:∀(k:Nat)(E:TypeId)(fl:Nat),bs[k]?=some (.arr E fl)->∃(xs:List PV),st'[k]?=some (.arr E fl xs)/\((∃g,st[k]?=some (.arr E g xs)/\(fl=0->g=0))\/(st.length<=k/\xs=[]))
 mit:∀(k:Nat)(K E:TypeId),bs[k]?=some (.mit K E)->∃(es:List (PV×PV)),st'[k]?=some (.mit K E none es)/\∃c,st[k]?=some (.mit K E c es)
theorem StFit.cons{P:Program}{z:List BX}{t r:List BSh}{st st':List BX}{b:BSh}{x y:BX}(f:StFit P z t r st st')(U:b=.acc->y=.acc 0/\∃g,x=.acc g)
 (V:∀T p,b=.box T p->∃(s:SV)(vs m:List SV)(M o:List Shape),x=.box T s/\ahz P z t p s M=some (vs,o)/\y=.box T (p.build (vs++m)).1)
 (Y:∀K E,b=.map K E->∃es,x=.map K E es/\y=.map K E es) (W:b=.iter->∃s p,x=.iter s p/\y=.iter s p) (X:∀T,b=.bld T->∃s,x=.bld T s/\y=.bld T s) (hr:∀E J,b=.arr E J->∃xs,y=.arr E J xs/\∃g,x=.arr E g xs/\(J=0->g=0)) (Z:∀K E,b=.mit K E->∃es,y=.mit K E none es/\∃c,x=.mit K E c es):StFit P z t (b::r) (x::st) (y::st'):=by
 refine⟨by simp[f.len],λk I=>?_,λk T p I=>?_,λk K E I=>?_,λk I=>?_,λk T I=>?_,λk E J I=>?_,λk K E I=>?_⟩
 ·cases k with
  |zero=>grind
  |succ k=>obtain⟨G,H⟩:=f.acc k (by simp_all);grind
 ·cases k with
  |zero=>grind
  |succ k=>obtain⟨s,vs,m,M,o,G,H,O⟩:=f.box k T p (by simp_all);grind
 ·cases k with
  |zero=>grind
  |succ k=>obtain⟨es,G,H⟩:=f.map k K E (by simp_all);grind
 ·cases k with
  |zero=>grind
  |succ k=>obtain⟨s,p,G,H⟩:=f.iter k (by simp_all);grind
 ·cases k with
  |zero=>grind
  |succ k=>obtain⟨s,G,H⟩:=f.bld k T (by simp_all);grind
 ·cases k with
  |zero=>grind
  |succ k=>obtain⟨s,G,H⟩:=f.arr k E J (by simp_all);grind
 ·cases k with
  |zero=>grind
  |succ k=>obtain⟨es,G,c,H⟩:=f.mit k K E (by simp_all);grind
theorem aqx{P:Program}{Y:List BX}{V:List BSh}:∀(bs:List BSh)(st:List BX)(I:List Shape)(U:List SV),afu P Y V bs st I=some U->StFit P Y V bs st (toSt bs U):=by
 intro bs;induction bs with
 |nil=>intro st I U h;simp[afu]at h;subst h;exact⟨rfl,λk h=>by simp at h,λk T p h=>by simp at h,λk K E h=>by simp at h,λk h=>by simp at h,λk T h=>by simp at h,λk E H h=>by simp at h,λk K E h=>by simp at h⟩
 |cons b r J=>
  intro st I U h;unfold afu at h;split at h
  ·simp_all
  ·rename_i o;injection o with m t;subst m;subst t;have f:=J [] _ U h;refine⟨by simp[toSt,f.len],λk z=>?_,λk T p z=>?_,λk K E z=>?_,λk z=>?_,λk T z=>?_,λk E H z=>?_,λk K E z=>?_⟩
   ·cases k with
    |zero=>exact⟨rfl,Or.inr (by simp)⟩
    |succ k=>obtain⟨m,t⟩:=f.acc k (by simp_all);grind[toSt]
   ·cases k with
    |zero=>simp at z
    |succ k=>obtain⟨s,vs,W,I,G,m,_⟩:=f.box k T p (by simp_all);simp at m
   ·cases k with
    |zero=>simp at z
    |succ k=>obtain⟨s,m,_⟩:=f.map k K E (by simp_all);simp at m
   ·cases k with
    |zero=>simp at z
    |succ k=>obtain⟨s,p,m,_⟩:=f.iter k (by simp_all);simp at m
   ·cases k with
    |zero=>simp at z
    |succ k=>obtain⟨s,m,_⟩:=f.bld k T (by simp_all);simp at m
   ·cases k with
    |zero=>simp at z
    |succ k=>obtain⟨s,m,t⟩:=f.arr k E H (by simp_all);grind[toSt]
   ·cases k with
    |zero=>simp at z
    |succ k=>obtain⟨s,_,_,m⟩:=f.mit k K E (by simp_all);simp at m
  ·rename_i o;injection o with m t;subst m;subst t;exact(J _ _ U h).cons (λ_=>⟨rfl,_,rfl⟩) (λT p e=>by cases e) (λK E e=>by cases e) (λe=>by cases e) (λT e=>by cases e) (λE H e=>by cases e) (λK E e=>by cases e)
  ·rename_i T p O T' s st' o;injection o with m t;subst m;subst t;cases o:Nat.beq T T' with
   |false=>grind
   |true=>
    rw[o]at h;have:=Ag o;subst this;simp only[Ad]at h;split at h
    ·rename_i vs ab m;split at h
     ·rename_i Z t;cases h;have e:toSt (.box T p::r) (vs++Z)=.box T (p.build (vs++Z)).1::toSt r Z:=by
       grind[toSt,aip]
      rw[e];exact(J _ _ Z t).cons (λe=>by cases e) (λT p e=>by grind) (λK E e=>by cases e) (λe=>by cases e) (λT e=>by cases e) (λE H e=>by cases e) (λK E e=>by cases e)
     ·cases h
    ·cases h
  ·rename_i K E O K' M es st' X G o;injection o with m t;subst m;subst t;cases o:(Nat.beq K K'&&Nat.beq E M)with
   |false=>grind
   |true=>
    rw[o]at h;simp only[Ai]at o;have:=Ag o.1;subst this;have:=Ag o.2;subst this;simp only[Ad]at h;split at h
    ·rename_i vs t;cases h;exact(J _ _ vs t).cons (λe=>by cases e) (λT p e=>by cases e) (λK E e=>by simp_all) (λe=>by cases e) (λT e=>by cases e) (λE H e=>by cases e) (λK E e=>by cases e)
    ·cases h
  ·rename_i O s p st' X ad G o;injection o with m t;subst m;subst t;split at h
   ·rename_i vs t;cases h;exact(J _ _ vs t).cons (λe=>by cases e) (λT p e=>by cases e) (λK E e=>by cases e) (λ_=>⟨s,p,rfl,by simp⟩) (λT e=>by cases e) (λE H e=>by cases e) (λK E e=>by cases e)
   ·cases h
  ·rename_i T O T' s st' X G o;injection o with m t;subst m;subst t;cases o:Nat.beq T T' with
   |false=>grind
   |true=>
    rw[o]at h;have:=Ag o;subst this;simp only[Ad]at h;split at h
    ·rename_i vs t;cases h;exact(J _ _ vs t).cons (λe=>by cases e) (λT p e=>by cases e) (λK E e=>by cases e) (λe=>by cases e) (λT e=>by simp_all) (λE H e=>by cases e) (λK E e=>by cases e)
    ·cases h
  ·rename_i E H O X G o;injection o with m t;subst m;subst t;split at h;case h_2=>cases h
   rename_i vs t;cases h;have f:=J [] _ vs t;refine⟨by simp[toSt,f.len],λk z=>?_,λk T p z=>?_,λk K E z=>?_,λk z=>?_,λk T z=>?_,λk M aa z=>?_,λk K E z=>?_⟩
   ·cases k with
    |zero=>simp at z
    |succ k=>obtain⟨m,t⟩:=f.acc k (by simp_all);grind[toSt]
   ·cases k with
    |zero=>simp at z
    |succ k=>obtain⟨s,vs,W,I,G,m,_⟩:=f.box k T p (by simp_all);simp at m
   ·cases k with
    |zero=>simp at z
    |succ k=>obtain⟨s,m,_⟩:=f.map k K E (by simp_all);simp at m
   ·cases k with
    |zero=>simp at z
    |succ k=>obtain⟨s,p,m,_⟩:=f.iter k (by simp_all);simp at m
   ·cases k with
    |zero=>simp at z
    |succ k=>obtain⟨s,m,_⟩:=f.bld k T (by simp_all);simp at m
   ·cases k with
    |zero=>simp at z;obtain⟨rfl,rfl⟩:=z;exact⟨[],by simp[toSt],Or.inr ⟨by simp,rfl⟩⟩
    |succ k=>obtain⟨s,m,t⟩:=f.arr k M aa (by simp_all);grind[toSt]
   ·cases k with
    |zero=>simp at z
    |succ k=>obtain⟨s,_,_,m⟩:=f.mit k K E (by simp_all);simp at m
  ·rename_i E H O M g xs st' X G o;injection o with m t;subst m;subst t;cases o:(Nat.beq E M&&(bif Nat.beq H 0 then Nat.beq g 0 else true))with
   |false=>grind
   |true=>
    rw[o]at h;simp only[Ai]at o;have:=Ag o.1;subst this;have hg:H=0->g=0:=by intro e;simp_all
    simp only[Ad]at h;split at h
    ·rename_i vs t;cases h;exact(J _ _ vs t).cons (λe=>by cases e) (λT p e=>by cases e) (λK E e=>by cases e) (λe=>by cases e) (λT e=>by cases e) (λE H e=>by simp_all) (λK E e=>by cases e)
    ·cases h
  ·rename_i K E O K' M c es st' X G o;injection o with m t;subst m;subst t;cases o:(Nat.beq K K'&&Nat.beq E M)with
   |false=>grind
   |true=>
    rw[o]at h;simp only[Ai]at o;have:=Ag o.1;subst this;have:=Ag o.2;subst this;simp only[Ad]at h;split at h
    ·rename_i vs t;cases h;exact(J _ _ vs t).cons (λe=>by cases e) (λT p e=>by cases e) (λK E e=>by cases e) (λe=>by cases e) (λT e=>by cases e) (λE H e=>by cases e) (λK E e=>by simp_all)
    ·cases h
  ·cases h
end Go.Ab
