/- The evaluator is sound: code, functions. -/
import Derived.Test.YticdffgjgfmicaaGreatDoorAbDraw
set_option linter.unusedVariables false
set_option linter.unusedSimpArgs false
set_option linter.unnecessarySimpa false
namespace Go.Ab
open Go
def NoGd(e:Env):Prop:=∀t u m x,e t≠.gd u m x
theorem NoGd.inv{e:Env}(h:NoGd e)(l:List Oper):GInv e l:=λt u m x o=>absurd o (h t u m x)
theorem NoGd.sweep(e:Env):NoGd (sweep e):=by intro t u m x h;grind[Ab.sweep]
theorem NoGd.set{e:Env}(h:NoGd e)(t:Nat){s:SV}(H:∀u m x,s≠.gd u m x):NoGd (e.set t s):=by
 intro z u m x o;unfold Env.set at o;cases G:Nat.beq z t with
 |true=>grind
 |false=>rw[G]at o;exact h z u m x o
theorem Rel.less{Γ:Ctx}{e m:Env}{st:List BX}{a:Act}{w:World}(h:Rel Γ e st a w)(o:∀t,m t=.undef\/m t=e t):Rel Γ m st a w:=by
 obtain⟨D,ow,μ,G,z⟩:=h;refine⟨D,ow,μ,G,z.size,z.defers,λt=>?_⟩;rcases o t with h|h
 ·rw[h];exact .undef
 ·rw[h];exact z.slot t
theorem Rel.sweep{Γ:Ctx}{e:Env}{st:List BX}{a:Act}{w:World}(h:Rel Γ e st a w):Rel Γ (sweep e) st a w:=
 h.less λt=>by grind[Ab.sweep]
theorem axz{Γ:Ctx}{R:Type}{C:Cfg}(U:acw C)(V:C.P=Γ.P)(Y:Γ.n=C.n)(O:Γ.np=C.np){ops:Array Oper}{r:R}{K:Env->List BX->Option R}{X:SV->List BX->Option R}{Q:Exit->Act->World->Prop}
 (I:∀H st' z w',K H st'=some r->Rel Γ H st' z w'->Q .normal z w') (W:∀s st' v z w',X s st'=some r->PRel Γ s st' v z w'->Q (.panic [{ v,recovered:=false }]) z w'):∀(l:List Oper)(i:Nat),ops.toList.drop i=l->∀(e:Env)(st:List BX),a2i C ops l e st K X=some r->∀(a:Act)(w:World),Rel Γ e st a w->GInv e l->wpOps Γ.P ops Q (List.range' i l.length) a w:=by
 intro l
 induction l with
 |nil=>intro i G e st h a w m J;exact I _ _ _ _ h m
 |cons o t ih=>
  intro i G e st h a w m J
  have Z:ops[i]?=some o:=by
   have:(ops.toList.drop i)[0]?=some o:=by rw[G];rfl
   simpa using this
  have M:ops.toList.drop (i+1)=t:=by
   have:(ops.toList.drop i).drop 1=t:=by rw[G];rfl
   grind[List.drop_drop]
  grind[List.length_cons,List.range'_succ,wpOps_cons,a2i,a0j]
def a6h(Γ:Ctx)(x:LEx)(e:Env)(st:List BX)(Q:Exit->Act->World->Prop):Prop:=
 match x with
 |.exit i=>∀a w,Rel Γ e st a w->Q (.exit i) a w
 |.ret=>∀a w,Rel Γ e st a w->Q .ret a w
 |.pan=>∀v a w,PRel Γ (e 0) st v a w->Q (.panic [{ v,recovered:=false }]) a w
def a05(C:Cfg)(body:Code)(m:Nat)(e:Env)(st:List BX)(x:LEx)(o:Env)(st':List BX):Prop:=
 ∀(Γ:Ctx),Γ.P=C.P->Γ.n=C.n->Γ.np=C.np->∀(Q:Exit->Act->World->Prop)(a:Act)(w:World),Rel Γ e st a w->NoGd e->a6h Γ x o st' Q->Code.rounds C.P body Q m a w
def LoopOk(C:Cfg)(body:Code):Prop:=∀(R:Type)(e:Env)(st:List BX)(K:LEx->Env->List BX->Option R)(r:R),C.lam R (aec body) e st K=some r->
 ∃m,∀(Γ:Ctx),Γ.P=C.P->Γ.n=C.n->Γ.np=C.np->∀(Q:Exit->Act->World->Prop)(a:Act)(w:World),Rel Γ e st a w->NoGd e->
  (∀x o st',K x o st'=some r->NoGd o->a6h Γ x o st' Q)->Code.rounds C.P body Q m a w
theorem LoopOk.one {C:Cfg}{body:Code} (h:∀(R:Type)(e:Env)(st:List BX)(K:LEx->Env->List BX->Option R)(r:R),C.lam R (aec body) e st K=some r->
 ∃x o st' m,K x o st'=some r/\NoGd o/\a05 C body m e st x o st'):LoopOk C body:=λR e st K r V=>by
 obtain⟨x,o,st',m,O,M,z⟩:=h R e st K r V
 exact⟨m,λΓ G H I Q a w t U J=>z Γ G H I Q a w t U (J x o st' O M)⟩
def aar:Code->List Code
 |.seq a b=>aar a++aar b
 |.cond _ a b=>aar a++aar b
 |.block _ c=>aar c
 |.loop c=>[c]
 |_=>[]
theorem aml{Γ:Ctx}{R:Type}{C:Cfg}(hC:acw C)(hP:C.P=Γ.P)(hn:Γ.n=C.n)(ah:Γ.np=C.np)(r:R):∀(c:Code),(∀body,body∈aar c->LoopOk C body)->∀(K:Ks R)(e:Env)(st:List BX),exec C c K e st=some r->
 ∀(Q:Exit->Act->World->Prop),(∀H st' G w',K.norm H st'=some r->NoGd H->Rel Γ H st' G w'->Q .normal G w')->(∀i H st' G w',K.exit i H st'=some r->NoGd H->Rel Γ H st' G w'->Q (.exit i) G w')->
  (∀H st' G w',K.ret H st'=some r->NoGd H->Rel Γ H st' G w'->Q .ret G w')->(∀s st' v G w',K.pan s st'=some r->PRel Γ s st' v G w'->Q (.panic [{ v,recovered:=false }]) G w')->∀(a:Act)(w:World),Rel Γ e st a w->NoGd e->c.wp Γ.P Q a w:=by
 intro c
 induction c with
 |skip=>intro _ K e st h Q J M U O a w o I;exact wp_skip (J _ _ _ _ h I o)
 |region id ops ad=>
  intro _ K e st h Q J M U O a w o I
  unfold exec runR at h
  cases ad with
  |false=>
   simp only[Af]at h
   refine wp_region ?_
   have:=axz hC hP hn ah (ops:=ops) (Q:=Q) (λH st' G w' V z=>J _ _ G w' V (NoGd.sweep H) z.sweep) O ops.toList 0 (by simp) e st h a w o (I.inv _)
   grind[List.range_eq_range',Array.length_toList]
  |true=>
   simp only[Ad]at h
   cases hd:awk C.P ops with
   |false=>grind
   |true=>
    rw[hd]at h
    simp only[Ad]at h
    have hm:Γ.P.follows .mixedOrders=true:=by rw[hP]at hd;simp only[awk,Ai]at hd;exact hd.1.1
    have z:Rel Γ e st a { w with drawn:=w.drawn+1 }:=by obtain⟨D,ow,μ,hw,X⟩:=o;obtain⟨J,M⟩:=hw.drawn (w.drawn+1);exact⟨D,ow,μ,J,X.mono M⟩
    exact wp_region_any hm (a5r hC hP hn (by grind) h I (λH st' G w' V z=>J _ _ G w' V (NoGd.sweep H) z.sweep) O a _ z)
 |seq x y aa ab=>grind[exec,wp_seq,aar,Exit.then]
 |cond c x y aa ab=>
  intro hL K e st h Q J M U O a w o I
  unfold exec at h
  have ae:∀body,body∈aar x->LoopOk C body:=λb W=>hL b (by simp[aar,W])
  have af:∀body,body∈aar y->LoopOk C body:=λb W=>hL b (by simp[aar,W])
  split at h
  ·rename_i t;split at h
   ·rename_i b W;have ht:a.eval (.tmp t)=.bool b:=by
     obtain⟨D,ow,μ,hw,X⟩:=o;have:=X.slot t;rw[W]at this;show a.tmps.getD t Go.undef=_;generalize a.tmps.getD t Go.undef=v at this;cases this;rfl
    have Y:∀b',b'=b->Rel Γ (e.set t (.bool b')) st a w:=by
     intro b' aj;obtain⟨D,ow,μ,hw,X⟩:=o;refine⟨D,ow,μ,hw,X.size,X.defers,λt'=>?_⟩;unfold Env.set;cases ai:Nat.beq t' t with
     |true=>have:=Ag ai;subst this;rw[aj];have:=X.slot t';rwa[W]at this
     |false=>exact X.slot t'
    cases b with
    |true=>exact wp_cond_true ht (aa ae K _ st h Q J M U O a w (Y true rfl) (I.set t (by simp)))
    |false=>exact wp_cond_false ht (ab af K _ st h Q J M U O a w (Y false rfl) (I.set t (by simp)))
   ·simp at h
  ·rename_i b;cases b with
   |true=>exact wp_cond_true rfl (aa ae K e st h Q J M U O a w o I)
   |false=>exact wp_cond_false rfl (ab af K e st h Q J M U O a w o I)
  ·simp at h
 |block id body ih=>
  intro hL K e st h Q J M U O a w o I
  unfold exec at h
  refine wp_block (ih (λb W=>hL b (by grind[aar])) _ e st h (Exit.inBlock id Q) J (λi H st' G w' V Z z=>?_) U O a w o I)
  show Exit.inBlock id Q (.exit i) G w'
  unfold Exit.inBlock
  by_cases hi:i=id
  ·subst hi;simp only[A8];simp only[Bf,Ad]at V;grind
  ·simp only[hi,A9];have W:Nat.beq i id=false:=by
    grind[Nat.beq,id,absurd,Nat.eq_of_beq_eq_true]
   grind
 |loop body _=>
  intro hL K e st h Q J M U O a w o I
  unfold exec at h
  obtain⟨m,ag⟩:=hL body (by simp[aar]) R e st _ r h
  rw[hP]at ag
  refine wp_loop_rounds m (ag Γ rfl hn ah Q a w o I (λx H st' V Z=>?_))
  cases x with
  |exit i=>exact λG w' z=>M i _ _ _ _ V Z z
  |ret=>exact λG w' z=>U _ _ _ _ V Z z
  |pan=>exact λv G w' hp=>O _ _ v _ _ V hp
 |exit id=>intro _ K e st h Q J M U O a w o I;exact wp_exit (M _ _ _ _ _ h I o)
 |ret=>intro _ K e st h Q J M U O a w o I;exact wp_ret (U _ _ _ _ h I o)
 |rangeFunc=>grind[exec]
 |scope=>grind[exec]
 |label=>grind[exec]
 |goto=>grind[exec]
 |refuse=>grind[exec]
theorem a4v{C:Cfg}(hC:acw C){body:Code}(hL:∀b,b∈aar body->LoopOk C b){R:Type}{r:R}{K:Ks R}{e:Env}{st:List BX}(h:exec C body K e st=some r){x:LEx}{Y:Env}{st':List BX}
 {m:Nat} (X:∀G o,K.norm G o=some r->NoGd G->a05 C body m G o x Y st')
 (V:∀i G o,K.exit i G o=some r->NoGd G->x=.exit i/\∀(Γ:Ctx)(a:Act)(w:World),Γ.P=C.P->Γ.np=C.np->Rel Γ G o a w->Rel Γ Y st' a w)
 (ab:∀G o,K.ret G o=some r->NoGd G->x=.ret/\∀(Γ:Ctx)(a:Act)(w:World),Γ.P=C.P->Γ.np=C.np->Rel Γ G o a w->Rel Γ Y st' a w)
 (Z:∀s o,K.pan s o=some r->x=.pan/\∀(Γ:Ctx)(v:Value)(a:Act)(w:World),Γ.P=C.P->Γ.np=C.np->PRel Γ s o v a w->PRel Γ (Y 0) st' v a w):a05 C body (m+1) e st x Y st':=by
 intro Γ H U z Q a w aa hg hQ
 rw[rounds_succ]
 have hw:body.wp Γ.P (Exit.then (Code.rounds C.P body Q m) Q) a w:=by
  refine aml hC H.symm U z r body hL K e st h (Exit.then (Code.rounds C.P body Q m) Q) (λG o M O W I t=>?_) (λi G o M O W I t=>?_) (λG o M O W I t=>?_) (λs o v M O W hp=>?_) a w aa hg
  ·exact X G o W I Γ H U z Q M O t I hQ
  ·obtain⟨rfl,J⟩:=V i G o W I;exact hQ M O (J Γ M O H z t)
  ·obtain⟨rfl,J⟩:=ab G o W I;exact hQ M O (J Γ M O H z t)
  ·obtain⟨rfl,J⟩:=Z s o W;exact hQ v M O (J Γ v M O H z hp)
 grind
end Go.Ab
namespace Go.Ab
open Go
section
variable{Γ:Ctx}{D:Dom}{ow:Own}{μ:Nat->Nat}{st:List BX}{w:World}
def owTo(ow:Own)(n:Nat):Own:=λb=>match ow b with|some k=>if k<n then some k else none|none=>none
theorem owTo_some{n b k:Nat}:owTo ow n b=some k ↔ ow b=some k/\k<n:=by unfold owTo;grind
theorem a0h{own:Bool}{T:TypeId}{s I:SV}{v:Value}{fz:List Nat}(H:WRel Γ D ow μ st w)(h:SRep Γ.P D w ow μ st s v)(o:bht Γ.P own st T s=some I)(G:∀k,k∈frozen own [s]->k∈fz):SRep Γ.P (adx D ow μ st fz) w ow μ st I v:=by
 have m:Moves D w ow μ st (adx D ow μ st fz) w ow μ st:=aix fz;unfold bht at o;split at o
 ·rename_i k;split at o
  ·rename_i K E es t;simp only[Aj]at o;subst o;cases h;obtain⟨ents,clock,kc,vc,M,O,r3,U,V,W,X,_⟩:=H.map k K E es t;exact .map (.mk kc vc M (Or.inr ⟨k,_,G k (by simp[frozen]),t,Or.inl ⟨K,E,es,rfl⟩,O,rfl⟩) U (λi x a=>(V i x a).mono m.dom m.keeps) (λi x a=>(W i x a).mono m.dom m.keeps) X)
  ·simp at o
 ·rename_i k g E;cases own with
  |true=>simp only[Ad,Aj]at o;subst o;exact h.mono m
  |false=>simp only[Af]at o;grind[Option.some.injEq,a8h,frozen]
 ·simp at o
 ·simp only[Aj]at o;subst o;exact h.mono m
 ·simp only[Aj]at o;subst o;exact h.mono m
 ·simp only[Aj]at o;subst o;exact h.mono m
 ·rename_i Y Z;cases own with
  |true=>
   simp only[Ad]at o;split at o
   ·rename_i x z;simp only[Aj]at o;subst o;exact(ab8 (h.mono m) z) _ _ _
   ·simp only[Aj]at o;subst o;exact h.mono m
  |false=>
   simp only[Af]at o;have J:=ai7 (fz:=fz) H h (λk t=>G k (by grind[an2,frozen]));split at o
   ·rename_i x z;simp only[Aj]at o;subst o;exact(ab8 J z) _ _ _
   grind
 ·cases own with
  |true=>simp only[Ad,Aj]at o;subst o;exact h.mono m
  |false=>simp only[Af]at o;exact(ab8 (h.mono m) o) _ _ _
 ·cases own with
  |true=>simp only[Ad,Aj]at o;subst o;exact h.mono m
  |false=>simp only[Af]at o;exact(ab8 (h.mono m) o) _ _ _
 ·exact(ab8 (h.mono m) o) _ _ _
theorem ava{own:Bool}{fz:List Nat}(W:WRel Γ D ow μ st w):∀(G:List TypeId)(ss m:List SV),akq Γ.P own st G ss=some m->(∀k,k∈frozen own ss->k∈fz)->∀(t:List Value),(∀(i:Nat)(s:SV)(v:Value),ss[i]?=some s->t[i]?=some v->SRep Γ.P D w ow μ st s v)->
 m.length=ss.length/\∀(i:Nat)(s:SV)(v:Value),m[i]?=some s->t[i]?=some v->SRep Γ.P (adx D ow μ st fz) w ow μ st s v:=by
 intro G
 induction G with
 |nil=>
  intro ss m h H t o
  cases ss with
  |nil=>simp[akq]at h;grind
  |cons=>simp[akq]at h
 |cons T G Y=>
  intro ss m h H t o
  cases ss with
  |nil=>simp[akq]at h
  |cons s ss=>
   simp only[akq]at h
   split at h
   ·rename_i x q X V;simp only[Aj]at h;subst h;have I:∀k,k∈frozen own [s]->k∈fz:=λk U=>H k (by cases own<;>cases s<;>simp_all[frozen]);have J:∀k,k∈frozen own ss->k∈fz:=λk U=>H k (by cases own<;>cases s<;>simp_all[frozen]);obtain⟨O,Z⟩:=Y ss q V J t.tail (λi s v z M=>o (i+1) s v (by simpa using z) (by simpa using M));refine⟨by simp[O],λi y v z M=>?_⟩;cases i with
    |zero=>simp at z;subst z;exact a0h W (o 0 s v (by simp) M) X I
    |succ i=>grind
   ·cases h
theorem axn(hw:WRel Γ D ow μ st w){e:Env}{a:Act}(hs:Slots Γ D ow μ e st a w):∀(rs:List ResultVar)(G:List SV),axm Γ.P e st rs=some G->
 ∃J:List Value,(rs.mapM λr=>(match r with|.tmp t=>pure (a.tmps.getD t Go.undef)|.cell x t=>do loadVar t (<-asAddr (a.tmps.getD x Go.undef)):Sem Value)).run Γ.P w=.ok J w/\J.length=G.length/\
  ∀(i:Nat)(s:SV)(v:Value),G[i]?=some s->J[i]?=some v->SRep Γ.P D w ow μ st s v:=by
 intro rs
 induction rs with
 |nil=>intro G h;simp[axm]at h;simp_all
 |cons r rr ih=>
  intro G h
  unfold axm at h
  split at h
  ·rename_i x q z hq;simp only[Aj]at h;subst h;obtain⟨J,X,h2,h3⟩:=ih q hq;have I:∃v,(match r with|.tmp t=>pure (a.tmps.getD t Go.undef)|.cell x t=>do loadVar t (<-asAddr (a.tmps.getD x Go.undef)):Sem Value).run Γ.P w=.ok v w/\SRep Γ.P D w ow μ st x v:=by
    unfold bf7 at z;split at z
    ·rename_i t;refine⟨a.tmps.getD t Go.undef,by simp,?_⟩;have o:=hs.slot t;split at z
     ·cases z
     ·rename_i ae;simp only[Aj]at z;subst z;cases V:e t with
      |gd u aa y=>all_goals grind
      |_=>rw[V]at o;exact o
    ·rename_i t M;split at z
     ·rename_i k U V;cases O:(Nat.beq M U&&(Γ.P.underlying M).isSome&&(aag Γ.P M||Nat.beq (Γ.P.cellsOf M) 1))with
      |false=>all_goals grind
      |true=>
       rw[O]at z;simp only[Ad]at z;simp only[Ai,A7]at O;have:=Ag O.1.1;subst this;split at z
       ·rename_i TB s Y;simp only[Aj]at z;subst z;have o:=hs.slot t;rw[V]at o;simp only[SlotRep]at o;generalize ad:a.tmps.getD t Go.undef=av at o;cases o with
        |@ref _ _ _ ab s' off H Z=>
         rw[Y]at H;cases H;simp only[ab9,Aj,Prod.mk.injEq]at Z;obtain⟨rfl,rfl⟩:=Z;obtain⟨m,T2,q1,W,q3,q4,q5⟩:=hw.box k _ s Y;refine⟨pack Γ.P TB m,?_,q5⟩;have hl:=aeh O.1.2 w (μ k) 0 m (λj v hj=>by all_goals grind[World.cell?]) (λ_=>W) (λha=>by
          have X:Γ.P.cellsOf TB=1:=by all_goals grind[Nat.eq_of_beq_eq_true]
          rw[X]at W;match m,W with
          |[u],_=>all_goals grind)
         all_goals grind[asAddr,Sem.run_bind,Sem.run_pure,Result.andThen_ok]
       ·simp at z
     ·simp at z
   obtain⟨v,af,ag⟩:=I;refine⟨v::J,?_,by simp[h2],λi s u hi hu=>?_⟩;all_goals grind[Sem.run_bind,Result.andThen_ok,Sem.run_pure]
  ·simp at h
theorem Objs.more{P:Program}{D':Dom}(h:Objs P D ow μ st w)(V:∀b o,D b o->D' b o)(O:∀b o,D' b o->D b o\/(ow b=none/\b<w.heap.size)):Objs P D' ow μ st w:=by
 have t:∀b k,ow b=some k->∀o,D' b o->D b o:=λb k H o d=>(O b o d).resolve_right (λhh=>by grind);have m:Moves D w ow μ st D' w ow μ st:=⟨V,Keeps.refl _ _,λk T s e=>⟨rfl,s,e⟩,λk K E es e=>⟨rfl,es,e⟩,λk b e _=>⟨rfl,b,e,rfl⟩,λk E g xs e=>⟨g,xs,e,Nat.le_refl _,λ_=>⟨rfl,ArrKeep.refl _ _ _ _ _⟩⟩,λk g e=>⟨g,e,Nat.le_refl _,λ_ b H=>⟨rfl,H,t b k H⟩⟩⟩;refine⟨λk b W=>?_,h.owlt,λb o d=>?_,λb k x H e X o d=>h.lone b k x H e X o (t b k H o d)⟩
 ·have G:=h.obj k b W;cases b with
  |box T s=>obtain⟨c,U,M,I,J,Y,Z⟩:=G;exact⟨c,U,M,I,J,λo d=>Y o (t _ k J o d),Z.mono m⟩
  |map K E es=>obtain⟨ents,clock,kc,vc,M,I,J⟩:=G;exact OMapRep.mono ⟨ents,clock,kc,vc,M,I,J⟩ m.dom m.keeps rfl rfl I (λo d=>J.1 o (t _ k I o d))
  |acc g=>trivial
  |hole=>trivial
  |iter s p=>exact ObjRep.mono (P:=P) (b:=.iter s p) G m.dom m.keeps (λ_=>rfl) (λc z=>⟨rfl,z,t c k z⟩)
  |mit K E c es=>exact ObjRep.mono (P:=P) (b:=.mit K E c es) G m.dom m.keeps (λ_=>rfl) (λc z=>⟨rfl,z,t c k z⟩)
  |bld T bs=>exact ObjRep.mono (P:=P) (b:=.bld T bs) G m.dom m.keeps (λ_=>rfl) (λc z=>⟨rfl,z,t c k z⟩)
  |arr E g xs=>exact ObjRep.mono (P:=P) (b:=.arr E g xs) G m.dom m.keeps (λ_=>rfl) (λc z=>⟨rfl,z,t c k z⟩)
 ·rcases O b o d with d|d
  ·exact h.dlt b o d
  ·exact d.2
theorem a3w(X:WRel Γ D ow μ st w){e:Env}{a:Act}(hs:Slots Γ D ow μ e st a w){ts:List TypeId}{rs:List ResultVar}{W:List SV}{sub:List BX}{own:Bool}(h:at1 Γ.P own e st Γ.np ts rs=some (W,sub)):
 ∃I:List Value,(rs.mapM λr=>(match r with|.tmp t=>pure (a.tmps.getD t Go.undef)|.cell x t=>do loadVar t (<-asAddr (a.tmps.getD x Go.undef)):Sem Value)).run Γ.P w=.ok I w/\
  ∃(D':Dom)(ks:List Nat),ks.Nodup/\(∃r,ks=List.range Γ.np++r)/\ahz st (acp ks) (ake st) ks=some sub/\(∀b o,D b o->D' b o)/\(∀b o,D' b o->D b o\/∃k,ow b=some k/\Γ.np<=k)/\
   Objs Γ.P D' (ago ow ks) (λj=>μ (ks.getD j 0)) sub w/\SRep Γ.P D' w (ago ow ks) (λj=>μ (ks.getD j 0)) sub (adp W) (if h:I.toArray.size=1 then I.toArray[0]else .tuple I.toArray):=by
 unfold at1 at h
 split at h
 ·cases h
 ·rename_i z V;split at h
  ·cases h
  ·rename_i m M;obtain⟨I,h1,h2,h3⟩:=axn X hs rs z V;cases Y:(frozen own z).all (λk=>!((agc own st Γ.np m).any (Nat.beq k)))with
   |false=>grind
   |true=>
    rw[Y]at h;simp only[Ad]at h;split at h
    ·rename_i ad aa hr G;simp only[Aj,Prod.mk.injEq]at h;obtain⟨rfl,rfl⟩:=h;have hn:=anl own st Γ.np m;obtain⟨r,U⟩:=ak8 own st Γ.np m;generalize agc own st Γ.np m=ks at*;have O:∀k,k∈frozen own z->k∉ks:=by
      grind[List.all_eq_true,Nat.beq,List.any_eq_true,Nat.beq_refl]
     obtain⟨l1,l2⟩:=ava (fz:=frozen own z) X ts z m M (λk hk=>hk) I h3;have J:∀b k,k∉ks->ow b=some k->ago ow ks b=none:=λb k hk ob=>amw (λk' ab e=>by grind);refine⟨I,h1,adx D ow μ st (frozen own z),ks,hn,⟨r,U⟩,G,λ_ _ d=>Or.inl d,λb o d=>?_,?_,?_⟩
     ·grind[ad7,Nat.lt_or_ge,absurd]
     ·refine(X.objs.sub hn G).more (λ_ _ d=>Or.inl d) (λb o d=>?_);rcases ad7 d with d|⟨k,k1,k2,k3⟩
      ·exact Or.inl d
      ·exact Or.inr ⟨J b k (O k k1) k2,(X.owlt b k k2).1⟩
     ·refine axy (Emb.sub hn G) ?_ hr;by_cases H:I.length=1
      ·obtain⟨v,rfl⟩:=List.length_eq_one_iff.1 H;obtain⟨s,rfl⟩:=List.length_eq_one_iff.1 (show m.length=1 by omega);simpa[adp]using l2 0 s v rfl rfl
      ·have Z:m.length≠1:=by omega
       have hr:adp m=.tup m:=by
        match m,Z with
        |[],_=>rfl
        |[x],h2=>grind
        |x::y::r,_=>rfl
       rw[hr,dif_neg (by simpa using H)];exact .tup (by simp;omega) (λi s v hi hv=>l2 i s v hi (by simpa using hv))
    ·cases h
end
theorem aha {C:Cfg} (hC:acw C) {f:FuncId}{fn:Func}{c:Code} (hf:C.P.funcs[f]?=some fn) (hb:fn.body=some c) (hn:fn.ntmps=C.n) (ai:(fn.name== "runtime.NumGoroutine")=false) (hL:∀ body,body∈aar c->LoopOk C body)
 {R:Type}{X:List SV}{st:List BX}{K:List SV->List BX->Option R}{r:R}{W:List SV}{af:List BX} (h:ak7 C fn X st K=some r) (aB:X.length<=C.n) (ar:st.length=C.np)
 (hK:∀rs s,K rs s=some r->∀(D:Dom)(w:World)(ow:Own)(μ:Nat->Nat)(v:Value)(D':Dom)(w':World),Post C.P D w ow μ st rs s v D' w'->Post C.P D w ow μ st W af v D' w'/\ah9 W v=ah9 rs v):Meets C.P f X st W af:=by
 refine⟨abc hf ai (by rw[hb];rfl),λD ow μ w z G=>?_⟩
 unfold ak7 at h
 rw[hb]at h
 simp only at h
 refine calls_of_wp hf hb ?_
 let Γ:Ctx:={ P:=C.P,n:=C.n,B:=w.heap.size,w0:=w,D0:=D,ow0:=ow,np:=st.length,μ0:=μ,K0:=λk=>match st[k]? with|some b=>b.kind|none=>[],L0:=λk=>match st[k]? with|some (.arr _ _ xs)=>xs.length|_=>0,hB:=rfl,tabs:=G.tabs }
 have hw:WRel Γ D ow μ st w:=by
  refine⟨λk T s e=>G.objs.obj k _ e,λk K E es e=>G.objs.obj k _ e,λk b e=>?_,G.objs.owlt,G.objs.dlt,rfl,rfl,rfl,Nat.le_refl _,λ_ _ _=>rfl,λ_ _ d=>d,λ_ _ d=>Or.inl d,λ_ _ h _=>h,Nat.le_refl _,λ_ _ _=>rfl,λk V=>?_,G.objs.lone,Keeps.refl _ _,λk V E xs e=>⟨?_,ArrKeep.refl _ _ _ _ _⟩⟩
  ·have h0:=G.objs.obj k b e;cases b with
   |box T s=>trivial
   |map K E es=>trivial
   |acc g=>trivial
   |hole=>trivial
   |_=>exact h0
  ·have aC:st[k]?=some st[k]:=Ao V;grind
  grind
 have av:Slots Γ D ow μ (asc X) st { tmps:=z++Array.replicate (fn.ntmps-z.size) Go.undef,defers:=[] } w:=by
  refine⟨by show(z++_).size=C.n;have:=G.size;simp;omega,rfl,λt=>?_⟩;unfold asc;by_cases ht:t<X.length
  ·have h1:X[t]?=some X[t]:=Ao ht;have aj:t<z.size:=by rw[G.size];exact ht
   have h2:z[t]?=some z[t]:=Array.getElem?_eq_getElem aj;have e1:X.getD t .undef=X[t]:=by grind
   have e2:(z++Array.replicate (fn.ntmps-z.size) Go.undef).getD t Go.undef=z[t]:=by
    have e:∀(x:Array Value),x.getD t Go.undef=(x[t]?).getD Go.undef:=λx=>by simp
    grind
   show SlotRep _ _ _ _ _ _ _ (X.getD t .undef) ((z++Array.replicate (fn.ntmps-z.size) Go.undef).getD t Go.undef);rw[e1,e2];exact(G.arg t _ _ h1 h2).slot
  ·have e1:X.getD t .undef=.undef:=by grind
   rw[e1];exact .undef
 have aq:NoGd (asc X):=by
  intro t u aA x he;unfold asc at he;by_cases ht:t<X.length
  ·have h1:X[t]?=some X[t]:=Ao ht;have aj:t<z.size:=by rw[G.size];exact ht
   have:=G.arg t _ _ h1 (Array.getElem?_eq_getElem aj);have e1:X.getD t .undef=X[t]:=by grind
   rw[e1]at he;rw[he]at this;cases this
  grind
 have am:∀(rs:List SV)(s':List BX)(v:Value)(w':World)(D1 D':Dom)(M:Own)(O:Nat->Nat)(st':List BX)(ks r':List Nat),K rs s'=some r->WRel Γ D1 M O st' w'->ks.Nodup->ks=List.range st.length++r'->ahz st' (acp ks) (ake st') ks=some s'->
  (∀b o,D1 b o->D' b o)->(∀b o,D' b o->D1 b o\/∃k,M b=some k/\st.length<=k)->Objs C.P D' (ago M ks) (λj=>O (ks.getD j 0)) s' w'->ah3 C.P D' w' (ago M ks) (λj=>O (ks.getD j 0)) s' rs v->
  Post C.P D w ow μ st W af v D' w'/\ah9 W v=ah9 rs v:=by
  intro rs s' v w' D1 D' M O st' ks r' V m ae aa U hD hN Z J
  have ab:∀k,k<st.length->ks[k]?=some k:=by grind
  obtain⟨l1,l2⟩:=ajm ks s' U
  refine hK rs s' V D w ow μ _ D' w' ⟨λb o d=>hD b o (m.dom0 b o d),λb o d=>?_,⟨ago M ks,λj=>O (ks.getD j 0),Z,J,λb j hb ah=>?_,λk b ag=>?_,λk E g xs ys ag ad=>?_⟩,m.os,m.tape,m.output,m.hs,m.old,m.keep0⟩
  ·rcases hN b o d with d|⟨k,k1,k2⟩
   ·exact m.domN b o d
   ·rcases Nat.lt_or_ge b w.heap.size with ah|aD
    ·have h0:=m.owN b k k1 ah;grind
    grind
  ·obtain⟨k,hj,au⟩:=ae0 hb;have h0:=m.owN b k au ah;have I:=(G.objs.owlt b k h0).2;grind[aqb]
  ·have I:=(A6.1 ag).1;obtain⟨x,hx,p1⟩:=m.par k I;obtain⟨b1,b2,q1,q2,q3⟩:=l2 k k (ab k I);rw[hx]at q1;cases q1;have hK:Γ.K0 k=b.kind:=by grind
   refine⟨b2,q3,(acv q2).1.trans (p1.trans hK),λ_ ay=>?_⟩;have e:ks.getD k 0=k:=by grind
   show O (ks.getD k 0)=μ k;rw[e];refine m.mu0 k I (λE hE=>?_);rw[hK]at hE;obtain⟨g,xs,rfl⟩:=ai9 hE;grind
  ·have I:=(A6.1 ag).1;obtain⟨b1,b2,q1,q2,q3⟩:=l2 k k (ab k I);rw[ad]at q3;cases q3;obtain⟨g1,zs,rfl⟩:=ai9 (acv q2).1.symm;have aw:=(acv q2).2.2 _ _ _ rfl;have az:ake st' k=(bif Nat.beq g1 0 then 0 else 1):=by grind[ake]
   injection aw with _ q4 q5;subst q5;have ap:g1=0:=by grind[Nat.beq,Nat.eq_of_beq_eq_true]
   subst ap;obtain⟨r1,r2⟩:=m.arr0 k I E ys q1;have hL:Γ.L0 k=xs.length:=by grind
   refine⟨r1.trans hL,λao hc ho=>?_⟩;obtain⟨t1,t2,ax,t3,t4⟩:=r2 ao hc ho;grind[List.getD,auy]
 have fin:∀e' st' a' w',(match at1 C.P C.own e' st' st.length fn.resultTypes.toList fn.results.toList with|some (rs,s')=>K rs s'|none=>none)=some r->Rel Γ e' st' a' w'->
  a'.defers=[]/\∃v,(results fn a'.tmps).run C.P w'=.ok v w'/\∃an D',Ending.returned v=ah9 W an/\Post C.P D w ow μ st W af an D' w':=by
  intro e' st' a' w' V Y
  obtain⟨D1,M,O,m,ad⟩:=Y
  split at V
  ·rename_i rs s' H;obtain⟨vs,h1,D',ks,ae,⟨r',aa⟩,U,hD,hN,Z,J⟩:=a3w m ad H;obtain⟨J,al⟩:=agw J;obtain⟨hp,he⟩:=am rs s' _ w' D1 D' M O st' ks r' V m ae aa U hD hN Z J;refine⟨ad.defers,if h:vs.toArray.size=1 then vs.toArray[0]else .tuple vs.toArray,?_,_,D',(he.trans al).symm,hp⟩;unfold results;rw[Sem.run_bind,Array.mapM_eq_mapM_toList,Sem.run_map];exact congrArg (λr:Result (List Value)=>(r.andThen λa w'=>Result.ok a.toArray w').andThen λa w'=>Sem.run C.P (pure (if h:a.size=1 then a[0]else Value.tuple a)) w') (h1:_=_)
  ·simp at V
 have H:=aml (Γ:=Γ) hC rfl rfl ar r c hL _ (asc X) st h (bodyPost C.P fn (λe w'=>∃v D',e=ah9 W v/\Post C.P D w ow μ st W af v D' w'))
  (λe' st' a' w' V _ Y=>fin e' st' a' w' V Y) (λi e' st' a' w' V _ _=>by simp at V) (λe' st' a' w' V _ Y=>fin e' st' a' w' V Y) (λs st' v a' w' V hp=>?_) _ w ⟨D,ow,μ,hw,av⟩ aq
 ·exact H
 obtain⟨ak,D1,M,O,m,ad⟩:=hp
 refine⟨ak,?_⟩
 simp only at V
 split at V
 ·rename_i rs s' H;unfold a7y at H;split at H
  ·rename_i T x;split at H
   ·rename_i x' sub hc U;simp only[Aj,Prod.mk.injEq]at H;obtain⟨rfl,rfl⟩:=H;have ae:=anl false st' st.length [];obtain⟨r',aa⟩:=ak8 false st' st.length [];have J:ah3 C.P D1 w' (ago M (agc false st' st.length [])) (λj=>O ((agc false st' st.length []).getD j 0)) sub [.pan (.ifc T x')] v:=by
     cases ad with
     |ifc hu=>exact .ifc (ab8 hu hc _ _ _)
    obtain⟨hp,he⟩:=am _ _ v w' D1 D1 M O st' _ r' V m ae aa U (λ_ _ d=>d) (λ_ _ d=>Or.inl d) (m.objs.sub ae U) J;exact⟨v,D1,he.symm,hp⟩
   ·cases H
  ·cases H
 ·cases V
end Go.Ab
namespace Go.Ab
open Go
inductive Shape where
 |bool
 |int (k:IntKind)
 |str
 |slice (E:TypeId)
 |data (T:TypeId)
 |map (K E:TypeId)
 |acc (k:Nat) (E:TypeId)
 |pto (T:TypeId)
 |raw
 |eif
 |ifc (T:TypeId)
 |ifs (T E:TypeId)
 |sln (E:TypeId)
 |con (s:SV)
@[reducible] def Shape.ty:Shape->Type
 |.bool=>Bool
 |.int _=>Int
 |.str=>Bn
 |.slice _=>List PV
 |.data _=>PV
 |.map _ _=>List (PV×PV)
 |.acc _ _=>List PV
 |.pto _=>PV
 |.raw=>Value
 |.eif=>Bool
 |.ifc _=>PV
 |.ifs _ _=>List PV
 |.sln _=>List PV
 |.con _=>Unit
def unGd(s:SV):SV:=match s with|.gd _ _ _=>.undef|s=>s
@[reducible] def Shape.enc:(s:Shape)->s.ty->SV
 |.bool,b=>.bool b
 |.int k,n=>.int k n
 |.str,s=>.str s
 |.slice E,xs=>.slice E xs
 |.data T,v=>.data T v
 |.map K E,es=>.map K E es
 |.acc k E,xs=>.acc k 0 E xs
 |.pto T,v=>.pto T v
 |.raw,v=>.raw v
 |.eif,b=>.eif b
 |.ifc T,v=>.ifc T (.data T v)
 |.ifs T E,xs=>.ifc T (.slice E xs)
 |.sln E,xs=>.sln E xs
 |.con c,_=>unGd c
def beqN:List Nat->List Nat->Bool
 |[],[]=>true
 |x::r,y::q=>Nat.beq x y&&beqN r q
 |_,_=>false
theorem bgg:∀{a b:List Nat},beqN a b=true->a=b:=by
 intro a;induction a with
 |nil=>grind[beqN]
 |cons x r m=>
  intro b h;cases b with
  |nil=>simp[beqN]at h
  |cons y q=>simp only[beqN,Ai]at h;grind[Nat.eq_of_beq_eq_true]
def ash(a b:SV):Bool:=
 match a,b with
 |.ref k p T,.ref m p' o=>Nat.beq k m&&beqN p p'&&Nat.beq T o
 |.mref k,.mref m=>Nat.beq k m
 |.mitr k,.mitr m=>Nat.beq k m
 |.iref k,.iref m=>Nat.beq k m
 |.bref k T,.bref m o=>Nat.beq k m&&Nat.beq T o
 |.nils,.nils=>true
 |.arr k g E,.arr m z t=>Nat.beq k m&&Nat.beq g z&&Nat.beq E t
 |_,_=>false
theorem aov{a b:SV}(h:ash a b=true):a=b:=by
 unfold ash at h;split at h
 ·simp only[Ai]at h;all_goals grind[Nat.eq_of_beq_eq_true,bgg]
 all_goals simp_all
def amh:List SV->List SV->Bool
 |[],[]=>true
 |x::r,y::q=>ash x y&&amh r q
 |_,_=>false
theorem a3h:∀{a b:List SV},amh a b=true->a=b:=by
 intro a;induction a with
 |nil=>grind[amh]
 |cons x r m=>
  intro b h;cases b with
  |nil=>simp[amh]at h
  |cons y q=>simp only[amh,Ai]at h;grind[aov]
def a08(a b:SV):Bool:=
 match a,b with
 |.fn f n cs,.fn t z m=>Nat.beq f t&&Nat.beq n z&&amh cs m
 |.ifc T a,.ifc o b=>Nat.beq T o&&ash a b
 |a,b=>ash a b
theorem a6z{a b:SV}(h:a08 a b=true):a=b:=by
 unfold a08 at h;split at h
 ·simp only[Ai]at h;grind[Nat.eq_of_beq_eq_true,a3h]
 ·simp only[Ai]at h;grind[Nat.eq_of_beq_eq_true,aov]
 ·exact aov h
@[reducible] def Shape.get:(s:Shape)->SV->Option s.ty
 |.bool,.bool b=>some b
 |.int k,.int t n=>bif decide (k=t)then some n else none
 |.str,.str s=>some s
 |.slice E,.slice m xs=>bif Nat.beq E m then some xs else none
 |.data T,.data o v=>bif Nat.beq T o then some v else none
 |.map K E,.map z m es=>bif Nat.beq K z&&Nat.beq E m then some es else none
 |.acc k E,.acc t 0 m xs=>bif Nat.beq k t&&Nat.beq E m then some xs else none
 |.pto T,.pto o v=>bif Nat.beq T o then some v else none
 |.raw,.raw v=>some v
 |.eif,.eif b=>some b
 |.ifc T,.ifc o (.data G v)=>bif Nat.beq T o&&Nat.beq T G then some v else none
 |.ifs T E,.ifc o (.slice m xs)=>bif Nat.beq T o&&Nat.beq E m then some xs else none
 |.con c,s=>bif a08 s c then some ()else none
 |_,_=>none
theorem aaz{α:Type}{b:Bool}{x y:α}(h:(bif b then some x else none)=some y):b=true/\x=y:=by grind
theorem Shape.get_spec{o:Shape}{s:SV}{x:o.ty}(h:o.get s=some x):s=o.enc x:=by
 unfold Shape.get at h;split at h
 ·cases h;rfl
 ·grind
 ·cases h;rfl
 ·obtain⟨m,rfl⟩:=aaz h;grind[Nat.eq_of_beq_eq_true]
 ·obtain⟨m,rfl⟩:=aaz h;grind[Nat.eq_of_beq_eq_true]
 ·obtain⟨m,rfl⟩:=aaz h;simp_all
 ·obtain⟨m,rfl⟩:=aaz h;simp_all
 ·obtain⟨m,rfl⟩:=aaz h;grind[Nat.eq_of_beq_eq_true]
 ·cases h;rfl
 ·cases h;rfl
 ·obtain⟨m,rfl⟩:=aaz h;simp only[Ai]at m;grind[Nat.eq_of_beq_eq_true]
 ·obtain⟨m,rfl⟩:=aaz h;simp_all
 ·obtain⟨m,t⟩:=aaz h;have:=a6z m;subst this;show _=unGd _;unfold unGd;grind[a08,ash]
 ·cases h
@[reducible] def TyL:List Shape->Type
 |[]=>Unit
 |[s]=>s.ty
 |s::t::r=>s.ty×TyL (t::r)
def encL:(l:List Shape)->TyL l->List SV
 |[],_=>[]
 |[s],x=>[s.enc x]
 |s::t::r,x=>s.enc x.1::encL (t::r) x.2
def getL:(l:List Shape)->List SV->Option (TyL l)
 |[],[]=>some ()
 |[s],[v]=>s.get v
 |s::t::r,v::vs=>match s.get v,getL (t::r) vs with|some x,some y=>some (x,y)|_,_=>none
 |_,_=>none
theorem awu:∀(l:List Shape)(m:List SV)(x:TyL l),getL l m=some x->m=encL l x:=by
 intro l;induction l with
 |nil=>intro m x h;cases m with|nil=>rfl|cons=>simp[getL]at h
 |cons s r H=>
  intro m x h;cases r with
  |nil=>
   match m with
   |[]=>simp[getL]at h
   |[v]=>simp only[getL]at h;simp only[encL];rw[Shape.get_spec h]
   |_::_::_=>simp[getL]at h
  |cons t r=>
   match m with
   |[]=>simp[getL]at h
   |v::m=>
    simp only[getL]at h;split at h
    ·rename_i y z o G;simp only[Aj]at h;subst h;show v::m=_::_;rw[H m z G,Shape.get_spec o]
    ·cases h
theorem bgr:∀(l:List Shape)(x:TyL l),(encL l x).length=l.length:=by
 intro l;induction l with
 |nil=>intro x;rfl
 |cons s r m=>
  intro x;cases r with
  |nil=>rfl
  |cons t r=>grind[encL]
theorem a1h(o:Shape)(x:o.ty)(u:Nat)(m:Bool)(y:SV):o.enc x≠.gd u m y:=by
 cases o<;>simp only[Shape.enc]<;>first|exact(by intro h;cases h)|skip
 unfold unGd;grind
theorem a7q:∀(l:List Shape)(x:TyL l)(u:Nat)(m:Bool)(y:SV),SV.gd u m y∉encL l x:=by
 intro l;induction l with
 |nil=>grind[encL]
 |cons s r o=>
  intro x u m y h;cases r with
  |nil=>grind[encL,List.mem_singleton,a1h]
  |cons t r=>grind[encL,a1h]
inductive Pat where
 |leaf
 |agg (T:TypeId) (ps:List Pat)
inductive BSh where
 |box (T:TypeId) (p:Pat)
 |acc
 |map (K E:TypeId)
 |iter
 |bld (T:TypeId)
 |arr (E:TypeId) (fl:Nat)
 |mit (K E:TypeId)
def ak6:List Nat->List SV->Env
 |t::ts,v::vs=>λu=>bif Nat.beq u t then v else ak6 ts vs u
 |_,_=>λ_=>.undef
mutual
def Pat.build:Pat->List SV->SV×List SV
 |.leaf,v::m=>(v,m)
 |.leaf,[]=>(.undef,[])
 |.agg T ps,m=>(.agg T (ajs ps m).1,(ajs ps m).2)
def ajs:List Pat->List SV->List SV×List SV
 |[],vs=>([],vs)
 |p::ps,vs=>((p.build vs).1::(ajs ps (p.build vs).2).1,(ajs ps (p.build vs).2).2)
end
def toSt:List BSh->List SV->List BX
 |.acc::r,m=>.acc 0::toSt r m
 |.box T p::r,m=>.box T (p.build m).1::toSt r (p.build m).2
 |.map K E::r,v::m=>.map K E (match v with|.map _ _ es=>es|_=>[])::toSt r m
 |.iter::r,v::u::m=>.iter (match v with|.str s=>s|_=>[]) (match u with|.int _ n=>n.toNat|_=>0)::toSt r m
 |.bld T::r,v::m=>.bld T (match v with|.str s=>s|_=>[])::toSt r m
 |.arr E o::r,v::m=>.arr E o (match v with|.slice _ xs=>xs|_=>[])::toSt r m
 |.mit K E::r,v::m=>.mit K E none (match v with|.map _ _ es=>es|_=>[])::toSt r m
 |_,_=>[]
def bb6(bs:List BSh)(k:Nat):Bool:=match bs[k]? with|some .acc=>true|_=>false
def bij(bs:List BSh)(k:Nat):Bool:=match bs[k]? with|some (.box _ _)=>true|_=>false
def bjg(bs:List BSh)(k:Nat):Bool:=match bs[k]? with|some (.map _ _)=>true|_=>false
def bfu(bs:List BSh)(k:Nat):Bool:=match bs[k]? with|some .iter=>true|_=>false
def bji(bs:List BSh)(k:Nat):Bool:=match bs[k]? with|some (.mit _ _)=>true|_=>false
def bii(bs:List BSh)(k:Nat):Bool:=match bs[k]? with|some (.bld _)=>true|_=>false
def amq(bs:List BSh)(s:SV):Bool:=
 match s with
 |.ref k _ _=>bij bs k
 |.mref k=>bjg bs k
 |.mitr k=>bji bs k
 |.iref k=>bfu bs k
 |.bref k _=>bii bs k
 |.nils=>true
 |_=>false
def auh(bs:List BSh)(s:SV):Bool:=
 match s with
 |.fn _ _ cs=>cs.all (amq bs)
 |s=>amq bs s
def ase(bs:List BSh)(k m:Nat)(E:TypeId):Bool:=match bs[k]? with|some (.arr E' fl')=>Nat.beq E E'&&Nat.beq m fl'|_=>false
def alh(P:Program)(st:List BX)(bs:List BSh)(G:Shape)(s:SV):Option SV:=
 match G with
 |.acc k E=>
  match s with
  |.acc t g o xs=>bif Nat.beq k t&&Nat.beq E o&&aor st k g&&bb6 bs k then some (.acc k 0 E xs)else none
  |.nils=>bif bb6 bs k then some (.acc k 0 E [])else none
  |_=>none
 |.slice E=>match s with|.nils=>some (.slice E [])|s=>canon P none s
 |.con c=>
  match c with
  |.arr k m E=>
   match s with
   |.arr t g o=>bif Nat.beq k t&&Nat.beq E o&&afu st k g&&ase bs k m E then some (.arr k m E)else none
   |.nils=>bif ase bs k m E&&Nat.ble st.length k then some (.arr k m E)else none
   |_=>none
  |.ifc T (.arr k m E)=>
   match s with
   |.ifc z (.arr t g o)=>bif Nat.beq T z&&(Nat.beq k t&&Nat.beq E o&&afu st k g&&ase bs k m E)then some (.ifc T (.arr k m E))else none
   |_=>none
  |_=>bif auh bs s then some s else none
 |.ifc _=>match s with|.ifc T x=>(match canon P none x with|some y=>some (.ifc T y)|none=>none)|_=>none
 |.ifs _ E=>match s with|.ifc T .nils=>some (.ifc T (.slice E []))|.ifc T x=>(match canon P none x with|some y=>some (.ifc T y)|none=>none)|_=>none
 |_=>canon P none s
def agn(P:Program)(st:List BX)(bs:List BSh)(e:Env):List Nat->List Shape->Option (List SV)
 |[],_=>some []
 |t::ts,sh::shs=>match alh P st bs sh (e t),agn P st bs e ts shs with|some v,some vs=>some (v::vs)|_,_=>none
 |_::_,[]=>none
mutual
def ahv(P:Program)(st:List BX)(bs:List BSh):Pat->SV->List Shape->Option (List SV×List Shape)
 |.leaf,s,sh::m=>match alh P st bs sh s with|some v=>some ([v],m)|none=>none
 |.leaf,_,[]=>none
 |.agg T ps,s,m=>match aht P T s with|some fs=>afa P st bs ps fs m|none=>none
def afa(P:Program)(st:List BX)(bs:List BSh):List Pat->List SV->List Shape->Option (List SV×List Shape)
 |[],[],shs=>some ([],shs)
 |p::ps,s::ss,shs=>
  match ahv P st bs p s shs with
  |some (o,m)=>match afa P st bs ps ss m with|some (ws,shs2)=>some (o++ws,shs2)|none=>none
  |none=>none
 |_,_,_=>none
end
def afp(P:Program)(t:List BX)(o:List BSh):List BSh->List BX->List Shape->Option (List SV)
 |[],_,_=>some []
 |.acc::r,[],m=>afp P t o r [] m
 |.acc::r,.acc _::st,m=>afp P t o r st m
 |.box T p::r,.box J s::st,m=>
  bif Nat.beq T J then
   match ahv P t o p s m with
   |some (z,H)=>match afp P t o r st H with|some ws=>some (z++ws)|none=>none
   |none=>none
  else none
 |.map K E::r,.map I G es::st,_::m=>bif Nat.beq K I&&Nat.beq E G then(match afp P t o r st m with|some z=>some (.map K E es::z)|_=>none)else none
 |.iter::r,.iter s p::st,_::_::m=>(match afp P t o r st m with|some z=>some (.str s::.int .i64 p::z)|_=>none)
 |.bld T::r,.bld J s::st,_::m=>bif Nat.beq T J then(match afp P t o r st m with|some z=>some (.str s::z)|_=>none)else none
 |.arr E _::r,[],_::m=>(match afp P t o r [] m with|some z=>some (.slice E []::z)|_=>none)
 |.arr E M::r,.arr G g xs::st,_::m=>bif Nat.beq E G&&(bif Nat.beq M 0 then Nat.beq g 0 else true)then(match afp P t o r st m with|some z=>some (.slice E xs::z)|_=>none)else none
 |.mit K E::r,.mit I G _ es::st,_::m=>bif Nat.beq K I&&Nat.beq E G then(match afp P t o r st m with|some z=>some (.map K E es::z)|_=>none)else none
 |_,_,_=>none
structure Frame where
 slots:List Nat
 bs:List BSh
 sh:List Shape
@[reducible] def Frame.ty(F:Frame):Type:=TyL F.sh
def Frame.env(F:Frame)(x:F.ty):Env:=ak6 F.slots (encL F.sh x)
def Frame.st(F:Frame)(x:F.ty):List BX:=toSt F.bs ((encL F.sh x).drop F.slots.length)
def Frame.dec(F:Frame)(P:Program)(e:Env)(st:List BX):Option F.ty:=
 match agn P st F.bs e F.slots F.sh,afp P st F.bs F.bs st (F.sh.drop F.slots.length)with
 |some o,some m=>getL F.sh (o++m)
 |_,_=>none
theorem a3t:∀(z:List Nat)(o:List SV),(∀u m y,SV.gd u m y∉o)->NoGd (ak6 z o):=by
 intro z;induction z with
 |nil=>intro o _ t u m x h;simp[ak6]at h
 |cons t z M=>
  intro o J G u m x h;cases o with
  |nil=>simp[ak6]at h
  |cons v o=>
   simp only[ak6]at h;cases H:Nat.beq G t with
   |true=>grind
   |false=>rw[H]at h;exact M o (λu m y I=>J u m y (List.mem_cons_of_mem _ I)) G u m x h
theorem Frame.noGd(F:Frame)(x:F.ty):NoGd (F.env x):=a3t _ _ (a7q F.sh x)
theorem arz{P:Program}{st:List BX}{bs:List BSh}{e:Env}:∀(o:List Nat)(m:List Shape)(z:List SV),agn P st bs e o m=some z->z.length=o.length/\∀t,ak6 o z t=.undef\/∃G,alh P st bs G (e t)=some (ak6 o z t):=by
 intro o;induction o with
 |nil=>intro m z h;simp[agn]at h;subst h;exact⟨rfl,λt=>Or.inl rfl⟩
 |cons t o H=>
  intro m z h;cases m with
  |nil=>simp[agn]at h
  |cons G m=>grind[agn,ak6,Nat.beq,Nat.eq_of_beq_eq_true]
mutual
theorem aih{P:Program}{st:List BX}{bs:List BSh}:∀(p:Pat)(s:SV)(t:List Shape)(z:List SV)(o:List Shape)(m:List SV),ahv P st bs p s t=some (z,o)->(p.build (z++m)).2=m
 |.leaf,s,sh::t,z,o,m,h=>by
  simp only[ahv]at h;split at h
  ·simp only[Aj,Prod.mk.injEq]at h;obtain⟨rfl,rfl⟩:=h;rfl
  ·cases h
 |.leaf,s,[],z,o,m,h=>by simp[ahv]at h
 |.agg T ps,s,t,z,o,m,h=>by
  simp only[ahv]at h;split at h
  ·rename_i G _;exact ali ps G t z o m h
  ·cases h
theorem ali{P:Program}{st:List BX}{bs:List BSh}:∀(ps:List Pat)(ss:List SV)(t:List Shape)(G:List SV)(o:List Shape)(m:List SV),afa P st bs ps ss t=some (G,o)->(ajs ps (G++m)).2=m
 |[],[],t,G,o,m,h=>by simp only[afa,Aj,Prod.mk.injEq]at h;obtain⟨rfl,rfl⟩:=h;rfl
 |[],_::_,t,G,o,m,h=>by simp[afa]at h
 |_::_,[],t,G,o,m,h=>by simp[afa]at h
 |p::ps,s::ss,t,G,o,m,h=>by
  simp only[afa]at h;split at h
  ·rename_i H z M;split at h
   ·rename_i J I O;simp only[Aj,Prod.mk.injEq]at h;obtain⟨rfl,rfl⟩:=h;simp only[ajs,Ap];rw[aih p s t H z (J++m) M];exact ali ps ss z J _ m O
   ·cases h
  ·cases h
end
structure StFit(P:Program)(st0:List BX)(bs0 bs:List BSh)(st st':List BX):Prop where
 len:st'.length=bs.length
 acc:∀(k:Nat),bs[k]?=some .acc->st'[k]?=some (.acc 0)/\((∃(g:Nat),st[k]?=some (.acc g))\/st.length<=k)
 box:∀(k:Nat)(T:TypeId)(p:Pat),bs[k]?=some (.box T p)->∃(s:SV)(vs rest:List SV)(shs shs':List Shape),st[k]?=some (.box T s)/\ahv P st0 bs0 p s shs=some (vs,shs')/\st'[k]?=some (.box T (p.build (vs++rest)).1)
 map:∀(k:Nat)(K E:TypeId),bs[k]?=some (.map K E)->∃(es:List (PV×PV)),st[k]?=some (.map K E es)/\st'[k]?=some (.map K E es)
 iter:∀(k:Nat),bs[k]?=some .iter->∃(s:Bn)(p:Nat),st[k]?=some (.iter s p)/\st'[k]?=some (.iter s p)
 bld:∀(k:Nat)(T:TypeId),bs[k]?=some (.bld T)->∃(s:Bn),st[k]?=some (.bld T s)/\st'[k]?=some (.bld T s)
 arr:∀(k:Nat)(E:TypeId)(fl:Nat),bs[k]?=some (.arr E fl)->∃(xs:List PV),st'[k]?=some (.arr E fl xs)/\((∃g,st[k]?=some (.arr E g xs)/\(fl=0->g=0))\/(st.length<=k/\xs=[]))
 mit:∀(k:Nat)(K E:TypeId),bs[k]?=some (.mit K E)->∃(es:List (PV×PV)),st'[k]?=some (.mit K E none es)/\∃c,st[k]?=some (.mit K E c es)
theorem StFit.cons{P:Program}{z:List BX}{t r:List BSh}{st st':List BX}{b:BSh}{x y:BX}(f:StFit P z t r st st')(V:b=.acc->y=.acc 0/\∃g,x=.acc g)
 (W:∀T p,b=.box T p->∃(s:SV)(O m:List SV)(M o:List Shape),x=.box T s/\ahv P z t p s M=some (O,o)/\y=.box T (p.build (O++m)).1)
 (Z:∀K E,b=.map K E->∃es,x=.map K E es/\y=.map K E es) (X:b=.iter->∃s p,x=.iter s p/\y=.iter s p) (Y:∀T,b=.bld T->∃s,x=.bld T s/\y=.bld T s) (hr:∀E J,b=.arr E J->∃xs,y=.arr E J xs/\∃g,x=.arr E g xs/\(J=0->g=0)) (hq:∀K E,b=.mit K E->∃es,y=.mit K E none es/\∃c,x=.mit K E c es):StFit P z t (b::r) (x::st) (y::st'):=by
 refine⟨by simp[f.len],λk I=>?_,λk T p I=>?_,λk K E I=>?_,λk I=>?_,λk T I=>?_,λk E J I=>?_,λk K E I=>?_⟩
 ·cases k with
  |zero=>grind
  |succ k=>obtain⟨G,H⟩:=f.acc k (by simp_all);grind
 ·cases k with
  |zero=>grind
  |succ k=>obtain⟨s,O,m,M,o,G,H,U⟩:=f.box k T p (by simp_all);grind
 ·cases k with
  |zero=>grind
  |succ k=>obtain⟨es,G,H⟩:=f.map k K E (by simp_all);grind
 ·cases k with
  |zero=>grind
  |succ k=>obtain⟨s,p,G,H⟩:=f.iter k (by simp_all);grind
 ·cases k with
  |zero=>grind
  |succ k=>obtain⟨s,G,H⟩:=f.bld k T (by simp_all);grind
 ·cases k with
  |zero=>grind
  |succ k=>obtain⟨s,G,H⟩:=f.arr k E J (by simp_all);grind
 ·cases k with
  |zero=>grind
  |succ k=>obtain⟨es,G,c,H⟩:=f.mit k K E (by simp_all);grind
theorem aqc{P:Program}{Z:List BX}{W:List BSh}:∀(bs:List BSh)(st:List BX)(J:List Shape)(V:List SV),afp P Z W bs st J=some V->StFit P Z W bs st (toSt bs V):=by
 intro bs;induction bs with
 |nil=>intro st J V h;simp[afp]at h;subst h;exact⟨rfl,λk h=>by simp at h,λk T p h=>by simp at h,λk K E h=>by simp at h,λk h=>by simp at h,λk T h=>by simp at h,λk E I h=>by simp at h,λk K E h=>by simp at h⟩
 |cons b r M=>
  intro st J V h;unfold afp at h;split at h
  ·simp_all
  ·rename_i o;injection o with m t;subst m;subst t;have f:=M [] _ V h;refine⟨by simp[toSt,f.len],λk z=>?_,λk T p z=>?_,λk K E z=>?_,λk z=>?_,λk T z=>?_,λk E I z=>?_,λk K E z=>?_⟩
   ·cases k with
    |zero=>exact⟨rfl,Or.inr (by simp)⟩
    |succ k=>obtain⟨m,t⟩:=f.acc k (by simp_all);grind[toSt]
   ·cases k with
    |zero=>simp at z
    |succ k=>obtain⟨s,H,X,J,G,m,_⟩:=f.box k T p (by simp_all);simp at m
   ·cases k with
    |zero=>simp at z
    |succ k=>obtain⟨s,m,_⟩:=f.map k K E (by simp_all);simp at m
   ·cases k with
    |zero=>simp at z
    |succ k=>obtain⟨s,p,m,_⟩:=f.iter k (by simp_all);simp at m
   ·cases k with
    |zero=>simp at z
    |succ k=>obtain⟨s,m,_⟩:=f.bld k T (by simp_all);simp at m
   ·cases k with
    |zero=>simp at z
    |succ k=>obtain⟨s,m,t⟩:=f.arr k E I (by simp_all);grind[toSt]
   ·cases k with
    |zero=>simp at z
    |succ k=>obtain⟨s,_,_,m⟩:=f.mit k K E (by simp_all);simp at m
  ·rename_i o;injection o with m t;subst m;subst t;exact(M _ _ V h).cons (λ_=>⟨rfl,_,rfl⟩) (λT p e=>by cases e) (λK E e=>by cases e) (λe=>by cases e) (λT e=>by cases e) (λE I e=>by cases e) (λK E e=>by cases e)
  ·rename_i T p U T' s st' o;injection o with m t;subst m;subst t;cases o:Nat.beq T T' with
   |false=>grind
   |true=>
    rw[o]at h;have:=Ag o;subst this;simp only[Ad]at h;split at h
    ·rename_i H ab m;split at h
     ·rename_i ws t;cases h;have e:toSt (.box T p::r) (H++ws)=.box T (p.build (H++ws)).1::toSt r ws:=by
       grind[toSt,aih]
      rw[e];exact(M _ _ ws t).cons (λe=>by cases e) (λT p e=>by grind) (λK E e=>by cases e) (λe=>by cases e) (λT e=>by cases e) (λE I e=>by cases e) (λK E e=>by cases e)
     ·cases h
    ·cases h
  ·rename_i K E U K' O es st' Y G o;injection o with m t;subst m;subst t;cases o:(Nat.beq K K'&&Nat.beq E O)with
   |false=>grind
   |true=>
    rw[o]at h;simp only[Ai]at o;have:=Ag o.1;subst this;have:=Ag o.2;subst this;simp only[Ad]at h;split at h
    ·rename_i H t;cases h;exact(M _ _ H t).cons (λe=>by cases e) (λT p e=>by cases e) (λK E e=>by simp_all) (λe=>by cases e) (λT e=>by cases e) (λE I e=>by cases e) (λK E e=>by cases e)
    ·cases h
  ·rename_i U s p st' Y ad G o;injection o with m t;subst m;subst t;split at h
   ·rename_i H t;cases h;exact(M _ _ H t).cons (λe=>by cases e) (λT p e=>by cases e) (λK E e=>by cases e) (λ_=>⟨s,p,rfl,by simp⟩) (λT e=>by cases e) (λE I e=>by cases e) (λK E e=>by cases e)
   ·cases h
  ·rename_i T U T' s st' Y G o;injection o with m t;subst m;subst t;cases o:Nat.beq T T' with
   |false=>grind
   |true=>
    rw[o]at h;have:=Ag o;subst this;simp only[Ad]at h;split at h
    ·rename_i H t;cases h;exact(M _ _ H t).cons (λe=>by cases e) (λT p e=>by cases e) (λK E e=>by cases e) (λe=>by cases e) (λT e=>by simp_all) (λE I e=>by cases e) (λK E e=>by cases e)
    ·cases h
  ·rename_i E I U Y G o;injection o with m t;subst m;subst t;split at h;case h_2=>cases h
   rename_i H t;cases h;have f:=M [] _ H t;refine⟨by simp[toSt,f.len],λk z=>?_,λk T p z=>?_,λk K E z=>?_,λk z=>?_,λk T z=>?_,λk O aa z=>?_,λk K E z=>?_⟩
   ·cases k with
    |zero=>simp at z
    |succ k=>obtain⟨m,t⟩:=f.acc k (by simp_all);grind[toSt]
   ·cases k with
    |zero=>simp at z
    |succ k=>obtain⟨s,H,X,J,G,m,_⟩:=f.box k T p (by simp_all);simp at m
   ·cases k with
    |zero=>simp at z
    |succ k=>obtain⟨s,m,_⟩:=f.map k K E (by simp_all);simp at m
   ·cases k with
    |zero=>simp at z
    |succ k=>obtain⟨s,p,m,_⟩:=f.iter k (by simp_all);simp at m
   ·cases k with
    |zero=>simp at z
    |succ k=>obtain⟨s,m,_⟩:=f.bld k T (by simp_all);simp at m
   ·cases k with
    |zero=>simp at z;obtain⟨rfl,rfl⟩:=z;exact⟨[],by simp[toSt],Or.inr ⟨by simp,rfl⟩⟩
    |succ k=>obtain⟨s,m,t⟩:=f.arr k O aa (by simp_all);grind[toSt]
   ·cases k with
    |zero=>simp at z
    |succ k=>obtain⟨s,_,_,m⟩:=f.mit k K E (by simp_all);simp at m
  ·rename_i E I U O g xs st' Y G o;injection o with m t;subst m;subst t;cases o:(Nat.beq E O&&(bif Nat.beq I 0 then Nat.beq g 0 else true))with
   |false=>grind
   |true=>
    rw[o]at h;simp only[Ai]at o;have:=Ag o.1;subst this;have hg:I=0->g=0:=by intro e;simp_all
    simp only[Ad]at h;split at h
    ·rename_i H t;cases h;exact(M _ _ H t).cons (λe=>by cases e) (λT p e=>by cases e) (λK E e=>by cases e) (λe=>by cases e) (λT e=>by cases e) (λE I e=>by simp_all) (λK E e=>by cases e)
    ·cases h
  ·rename_i K E U K' O c es st' Y G o;injection o with m t;subst m;subst t;cases o:(Nat.beq K K'&&Nat.beq E O)with
   |false=>grind
   |true=>
    rw[o]at h;simp only[Ai]at o;have:=Ag o.1;subst this;have:=Ag o.2;subst this;simp only[Ad]at h;split at h
    ·rename_i H t;cases h;exact(M _ _ H t).cons (λe=>by cases e) (λT p e=>by cases e) (λK E e=>by cases e) (λe=>by cases e) (λT e=>by cases e) (λE I e=>by cases e) (λK E e=>by simp_all)
    ·cases h
  ·cases h
end Go.Ab
