/- The evaluator is sound: code, functions. -/
import Derived.Test.YtodichgnoiaanaaGreatDoorAbDraw
set_option linter.unusedVariables false
set_option linter.unusedSimpArgs false
set_option linter.unnecessarySimpa false
namespace Go.Ab
open Go
def NoGd (e:Env):Prop:=∀ t u h x,e t≠.gd u h x
theorem NoGd.inv {e:Env} (h:NoGd e) (l:List Oper):GInv e l:=λt u o x z=>absurd z (h t u o x)
theorem NoGd.sweep (e:Env):NoGd (sweep e):=by intro t u o x h;grind [Ab.sweep]
theorem NoGd.set {e:Env} (h:NoGd e) (t:Nat) {s:SV} (J:∀ u o x,s≠.gd u o x):NoGd (e.set t s):=by
 intro H u o x z;unfold Env.set at z;cases I:Nat.beq H t with
 | true=>grind
 | false=>rw [I] at z;exact h H u o x z
theorem Rel.less {Γ:Ctx}{e o:Env}{st:List BX}{a:Act}{w:World} (h:Rel Γ e st a w) (z:∀ t,o t=.undef\/o t=e t):Rel Γ o st a w:=by
 obtain ⟨D,ow,μ,I,H⟩:=h;refine ⟨D,ow,μ,I,H.size,H.defers,λt=>?_⟩;rcases z t with h | h
 ·rw [h];exact .undef
 ·rw [h];exact H.slot t
theorem Rel.sweep {Γ:Ctx}{e:Env}{st:List BX}{a:Act}{w:World} (h:Rel Γ e st a w):Rel Γ (sweep e) st a w:=
 h.less λt=>by grind [Ab.sweep]
theorem aml {Γ:Ctx}{R:Type}{C:Cfg} (hC:abt C) (hP:C.P=Γ.P) (hn:Γ.n=C.n) (ab:Γ.np=C.np) {ops:Array Oper}{r:R}{K:Env->List BX->Option R}{X:SV->List BX->Option R}{Q:Exit->Act->World->Prop}
 (O:∀ M st' I w',K M st'=some r->Rel Γ M st' I w'->Q .normal I w') (hX:∀ s st' v I w',X s st'=some r->PRel Γ s st' v I w'->Q (.panic [{ v,recovered:=false }]) I w'):∀ (l:List Oper) (i:Nat),ops.toList.drop i=l->∀ (e:Env) (st:List BX),ajb C ops l e st K X=some r->∀ (a:Act) (w:World),Rel Γ e st a w->GInv e l->wpOps Γ.P ops Q (List.range' i l.length) a w:=by
 intro l
 induction l with
 | nil=>intro i J e st h a w z Z;exact O _ _ _ _ h z
 | cons o H ih=>
  intro i J e st h a w z Z
  have ho:ops[i]?=some o:=by
   have:(ops.toList.drop i)[0]?=some o:=by rw [J];rfl
   simpa using this
  have aa:ops.toList.drop (i+1)=H:=by
   have:(ops.toList.drop i).drop 1=H:=by rw [J];rfl
   grind [List.drop_drop]
  grind [List.length_cons,List.range'_succ,wpOps_cons,ajb,axf]
def as0 (Γ:Ctx) (x:LEx) (e:Env) (st:List BX) (Q:Exit->Act->World->Prop):Prop:=
 match x with
 | .exit i=>∀ a w,Rel Γ e st a w->Q (.exit i) a w
 | .ret=>∀ a w,Rel Γ e st a w->Q .ret a w
 | .pan=>∀ v a w,PRel Γ (e 0) st v a w->Q (.panic [{ v,recovered:=false }]) a w
def ax1 (C:Cfg) (h:Code) (m:Nat) (e:Env) (st:List BX) (x:LEx) (o:Env) (st':List BX):Prop:=
 ∀ (Γ:Ctx),Γ.P=C.P->Γ.n=C.n->Γ.np=C.np->∀ (Q:Exit->Act->World->Prop) (a:Act) (w:World),Rel Γ e st a w->NoGd e->as0 Γ x o st' Q->Code.rounds C.P h Q m a w
def LoopOk (C:Cfg) (h:Code):Prop:=∀ (R:Type) (e:Env) (st:List BX) (K:LEx->Env->List BX->Option R) (r:R),C.lam R (ahw h) e st K=some r->
 ∃ m,∀ (Γ:Ctx),Γ.P=C.P->Γ.n=C.n->Γ.np=C.np->∀ (Q:Exit->Act->World->Prop) (a:Act) (w:World),Rel Γ e st a w->NoGd e->
  (∀ x o st',K x o st'=some r->NoGd o->as0 Γ x o st' Q)->Code.rounds C.P h Q m a w
theorem LoopOk.one {C:Cfg}{o:Code} (h:∀ (R:Type) (e:Env) (st:List BX) (K:LEx->Env->List BX->Option R) (r:R),C.lam R (ahw o) e st K=some r->
 ∃ x z st' m,K x z st'=some r/\NoGd z/\ax1 C o m e st x z st'):LoopOk C o:=λR e st K r hr=>by
 obtain ⟨x,z,st',m,hk,hg,I⟩:=h R e st K r hr
 exact ⟨m,λ Γ J M O Q a w H hn Z=>I Γ J M O Q a w H hn (Z x z st' hk hg)⟩
def aaw:Code->List Code
 | .seq a b=>aaw a++aaw b
 | .cond _ a b=>aaw a++aaw b
 | .block _ c=>aaw c
 | .loop c=>[c]
 | _=>[]
theorem aif {Γ:Ctx}{R:Type}{C:Cfg} (hC:abt C) (hP:C.P=Γ.P) (hn:Γ.n=C.n) (aj:Γ.np=C.np) (r:R):∀ (c:Code),(∀ H,H∈aaw c->LoopOk C H)->∀ (K:Ks R) (e:Env) (st:List BX),exec C c K e st=some r->
 ∀ (Q:Exit->Act->World->Prop),(∀ J st' I w',K.norm J st'=some r->NoGd J->Rel Γ J st' I w'->Q .normal I w')->(∀ i J st' I w',K.exit i J st'=some r->NoGd J->Rel Γ J st' I w'->Q (.exit i) I w')->
  (∀ J st' I w',K.ret J st'=some r->NoGd J->Rel Γ J st' I w'->Q .ret I w')->(∀ s st' v I w',K.pan s st'=some r->PRel Γ s st' v I w'->Q (.panic [{ v,recovered:=false }]) I w')->∀ (a:Act) (w:World),Rel Γ e st a w->NoGd e->c.wp Γ.P Q a w:=by
 intro c
 induction c with
 | skip=>intro _ K e st h Q O Z h3 h4 a w o M;exact wp_skip (O _ _ _ _ h M o)
 | region id ops af=>
  intro _ K e st h Q O Z h3 h4 a w o M
  unfold exec runR at h
  cases af with
  | false=>
   simp only [Ah] at h
   refine wp_region ?_
   have:=aml hC hP hn aj (ops:=ops) (Q:=Q) (λJ st' I w' hk z=>O _ _ I w' hk (NoGd.sweep J) z.sweep) h4 ops.toList 0 (by simp) e st h a w o (M.inv _)
   grind [List.range_eq_range',Array.length_toList]
  | true=>
   simp only [Af] at h
   cases hd:atn C.P ops with
   | false=>grind
   | true=>
    rw [hd] at h
    simp only [Af] at h
    have hm:Γ.P.follows .mixedOrders=true:=by rw [hP] at hd;simp only [atn,Aj] at hd;exact hd.1.1
    have z:Rel Γ e st a { w with drawn:=w.drawn+1 }:=by obtain ⟨D,ow,μ,hw,hs⟩:=o;obtain ⟨O,Z⟩:=hw.drawn (w.drawn+1);exact ⟨D,ow,μ,O,hs.mono Z⟩
    exact wp_region_any hm (a00 hC hP hn (by grind) h M (λJ st' I w' hk z=>O _ _ I w' hk (NoGd.sweep J) z.sweep) h4 a _ z)
 | seq x y ad ae=>grind [exec,wp_seq,aaw,Exit.then]
 | cond c x y ad ae=>
  intro hL K e st h Q O Z h3 h4 a w o M
  unfold exec at h
  have ag:∀ H,H∈aaw x->LoopOk C H:=λb hb=>hL b (by simp [aaw,hb])
  have ah:∀ H,H∈aaw y->LoopOk C H:=λb hb=>hL b (by simp [aaw,hb])
  split at h
  ·rename_i t;split at h
   ·rename_i b hb;have ht:a.eval (.tmp t)=.bool b:=by
     obtain ⟨D,ow,μ,hw,hs⟩:=o;have:=hs.slot t;rw [hb] at this;show a.tmps.getD t Go.undef=_;generalize a.tmps.getD t Go.undef=v at this;cases this;rfl
    have aa:∀ b',b'=b->Rel Γ (e.set t (.bool b')) st a w:=by
     intro b' al;obtain ⟨D,ow,μ,hw,hs⟩:=o;refine ⟨D,ow,μ,hw,hs.size,hs.defers,λt'=>?_⟩;unfold Env.set;cases ak:Nat.beq t' t with
     | true=>have:=Ae ak;subst this;rw [al];have:=hs.slot t';rwa [hb] at this
     | false=>exact hs.slot t'
    cases b with
    | true=>exact wp_cond_true ht (ad ag K _ st h Q O Z h3 h4 a w (aa true rfl) (M.set t (by simp)))
    | false=>exact wp_cond_false ht (ae ah K _ st h Q O Z h3 h4 a w (aa false rfl) (M.set t (by simp)))
   ·simp at h
  ·rename_i b;cases b with
   | true=>exact wp_cond_true rfl (ad ag K e st h Q O Z h3 h4 a w o M)
   | false=>exact wp_cond_false rfl (ae ah K e st h Q O Z h3 h4 a w o M)
  ·simp at h
 | block id H ih=>
  intro hL K e st h Q O Z h3 h4 a w o M
  unfold exec at h
  refine wp_block (ih (λb hb=>hL b (by grind [aaw])) _ e st h (Exit.inBlock id Q) O (λi J st' I w' hk ab z=>?_) h3 h4 a w o M)
  show Exit.inBlock id Q (.exit i) I w'
  unfold Exit.inBlock
  by_cases hi:i=id
  ·subst hi;simp only [A9];simp only [Bg,Af] at hk;grind
  ·simp only [hi,Bb];have hb:Nat.beq i id=false:=by
    grind [Nat.beq,id,absurd,Nat.eq_of_beq_eq_true]
   grind
 | loop H _=>
  intro hL K e st h Q O Z h3 h4 a w o M
  unfold exec at h
  obtain ⟨m,ai⟩:=hL H (by simp [aaw]) R e st _ r h
  rw [hP] at ai
  refine wp_loop_rounds m (ai Γ rfl hn aj Q a w o M (λx J st' hk ab=>?_))
  cases x with
  | exit i=>exact λI w' z=>Z i _ _ _ _ hk ab z
  | ret=>exact λI w' z=>h3 _ _ _ _ hk ab z
  | pan=>exact λv I w' hp=>h4 _ _ v _ _ hk hp
 | exit id=>intro _ K e st h Q O Z h3 h4 a w o M;exact wp_exit (Z _ _ _ _ _ h M o)
 | ret=>intro _ K e st h Q O Z h3 h4 a w o M;exact wp_ret (h3 _ _ _ _ h M o)
 | rangeFunc=>grind [exec]
 | scope=>grind [exec]
 | label=>grind [exec]
 | goto=>grind [exec]
 | refuse=>grind [exec]
theorem a0o {C:Cfg} (hC:abt C) {z:Code} (hL:∀ b,b∈aaw z->LoopOk C b) {R:Type}{r:R}{K:Ks R}{e:Env}{st:List BX} (h:exec C z K e st=some r) {x:LEx}{e':Env}{st':List BX}
 {m:Nat} (ad:∀ J o,K.norm J o=some r->NoGd J->ax1 C z m J o x e' st')
 (ab:∀ i J o,K.exit i J o=some r->NoGd J->x=.exit i/\∀ (Γ:Ctx) (a:Act) (w:World),Γ.P=C.P->Γ.np=C.np->Rel Γ J o a w->Rel Γ e' st' a w)
 (ag:∀ J o,K.ret J o=some r->NoGd J->x=.ret/\∀ (Γ:Ctx) (a:Act) (w:World),Γ.P=C.P->Γ.np=C.np->Rel Γ J o a w->Rel Γ e' st' a w)
 (ae:∀ s o,K.pan s o=some r->x=.pan/\∀ (Γ:Ctx) (v:Value) (a:Act) (w:World),Γ.P=C.P->Γ.np=C.np->PRel Γ s o v a w->PRel Γ (e' 0) st' v a w):ax1 C z (m+1) e st x e' st':=by
 intro Γ M aa I Q a w af hg hQ
 rw [rounds_succ]
 have hw:z.wp Γ.P (Exit.then (Code.rounds C.P z Q m) Q) a w:=by
  refine aif hC M.symm aa I r z hL K e st h (Exit.then (Code.rounds C.P z Q m) Q) (λJ o a1 w1 hk O H=>?_) (λi J o a1 w1 hk O H=>?_) (λJ o a1 w1 hk O H=>?_) (λs o v a1 w1 hk hp=>?_) a w af hg
  ·exact ad J o hk O Γ M aa I Q a1 w1 H O hQ
  ·obtain ⟨rfl,Z⟩:=ab i J o hk O;exact hQ a1 w1 (Z Γ a1 w1 M I H)
  ·obtain ⟨rfl,Z⟩:=ag J o hk O;exact hQ a1 w1 (Z Γ a1 w1 M I H)
  ·obtain ⟨rfl,Z⟩:=ae s o hk;exact hQ v a1 w1 (Z Γ v a1 w1 M I hp)
 grind
end Go.Ab
namespace Go.Ab
open Go
section
variable {Γ:Ctx}{D:Dom}{ow:Own}{μ:Nat->Nat}{st:List BX}{w:World}
def owTo (ow:Own) (n:Nat):Own:=λb=>match ow b with | some k=>if k<n then some k else none | none=>none
theorem owTo_some {n b k:Nat}:owTo ow n b=some k ↔ ow b=some k/\k<n:=by unfold owTo;grind
theorem axe {own:Bool}{T:TypeId}{s M:SV}{v:Value}{fz:List Nat} (J:WRel Γ D ow μ st w) (h:SRep Γ.P D w ow μ st s v) (o:bcw Γ.P own st T s=some M) (I:∀ k,k∈ac6 own [s]->k∈fz):SRep Γ.P (ac3 D ow μ st fz) w ow μ st M v:=by
 have m:Moves D w ow μ st (ac3 D ow μ st fz) w ow μ st:=aia fz;unfold bcw at o;split at o
 ·rename_i k;split at o
  ·rename_i K E es z;simp only [Ak] at o;subst o;cases h;obtain ⟨ents,clock,kc,vc,Z,r2,r3,r4,r5,r6,r7,_⟩:=J.map k K E es z;exact .map (.mk kc vc Z (Or.inr ⟨k,_,I k (by simp [ac6]),z,Or.inl ⟨K,E,es,rfl⟩,r2,rfl⟩) r4 (λi x a=>(r5 i x a).mono m.dom m.keeps) (λi x a=>(r6 i x a).mono m.dom m.keeps) r7)
  ·simp at o
 ·rename_i k g E;cases own with
  | true=>simp only [Af,Ak] at o;subst o;exact h.mono m
  | false=>simp only [Ah] at o;grind [Option.some.injEq,a3b,ac6]
 ·simp at o
 ·simp only [Ak] at o;subst o;exact h.mono m
 ·simp only [Ak] at o;subst o;exact h.mono m
 ·rename_i T' fs;cases own with
  | true=>
   simp only [Af] at o;split at o
   ·rename_i x H;simp only [Ak] at o;subst o;exact (ab1 (h.mono m) H) _ _ _
   ·simp only [Ak] at o;subst o;exact h.mono m
  | false=>
   simp only [Ah] at o;have O:=aij (fz:=fz) J h (λk z=>I k (by grind [amp,ac6]));split at o
   ·rename_i x H;simp only [Ak] at o;subst o;exact (ab1 O H) _ _ _
   grind
 ·cases own with
  | true=>simp only [Af,Ak] at o;subst o;exact h.mono m
  | false=>simp only [Ah] at o;exact (ab1 (h.mono m) o) _ _ _
 ·cases own with
  | true=>simp only [Af,Ak] at o;subst o;exact h.mono m
  | false=>simp only [Ah] at o;exact (ab1 (h.mono m) o) _ _ _
 ·exact (ab1 (h.mono m) o) _ _ _
theorem asf {own:Bool}{fz:List Nat} (hw:WRel Γ D ow μ st w):∀ (J:List TypeId) (ss o:List SV),ajq Γ.P own st J ss=some o->(∀ k,k∈ac6 own ss->k∈fz)->∀ (H:List Value),(∀ (i:Nat) (s:SV) (v:Value),ss[i]?=some s->H[i]?=some v->SRep Γ.P D w ow μ st s v)->
 o.length=ss.length/\∀ (i:Nat) (s:SV) (v:Value),o[i]?=some s->H[i]?=some v->SRep Γ.P (ac3 D ow μ st fz) w ow μ st s v:=by
 intro J
 induction J with
 | nil=>
  intro ss o h M H z
  cases ss with
  | nil=>simp [ajq] at h;grind
  | cons=>simp [ajq] at h
 | cons T J ih=>
  intro ss o h M H z
  cases ss with
  | nil=>simp [ajq] at h
  | cons s ss=>
   simp only [ajq] at h
   split at h
   ·rename_i x q hx hq;simp only [Ak] at h;subst h;have O:∀ k,k∈ac6 own [s]->k∈fz:=λk hk=>M k (by cases own<;>cases s<;>simp_all [ac6]);have Z:∀ k,k∈ac6 own ss->k∈fz:=λk hk=>M k (by cases own<;>cases s<;>simp_all [ac6]);obtain ⟨h1,h2⟩:=ih ss q hq Z H.tail (λi s v I hv=>z (i+1) s v (by simpa using I) (by simpa using hv));refine ⟨by simp [h1],λi y v I hv=>?_⟩;cases i with
    | zero=>simp at I;subst I;exact axe hw (z 0 s v (by simp) hv) hx O
    | succ i=>grind
   ·cases h
theorem aut (hw:WRel Γ D ow μ st w) {e:Env}{a:Act} (hs:Slots Γ D ow μ e st a w):∀ (rs:List ResultVar) (I:List SV),aus Γ.P e st rs=some I->
 ∃ O:List Value,(rs.mapM λr=>(match r with | .tmp t=>pure (a.tmps.getD t Go.undef) | .cell x t=>do loadVar t (<-asAddr (a.tmps.getD x Go.undef)):Sem Value)).run Γ.P w=.ok O w/\O.length=I.length/\
  ∀ (i:Nat) (s:SV) (v:Value),I[i]?=some s->O[i]?=some v->SRep Γ.P D w ow μ st s v:=by
 intro rs
 induction rs with
 | nil=>intro I h;simp [aus] at h;simp_all
 | cons r rr ih=>
  intro I h
  unfold aus at h
  split at h
  ·rename_i x q H hq;simp only [Ak] at h;subst h;obtain ⟨O,h1,h2,h3⟩:=ih q hq;have M:∃ v,(match r with | .tmp t=>pure (a.tmps.getD t Go.undef) | .cell x t=>do loadVar t (<-asAddr (a.tmps.getD x Go.undef)):Sem Value).run Γ.P w=.ok v w/\SRep Γ.P D w ow μ st x v:=by
    unfold bbi at H;split at H
    ·rename_i t;refine ⟨a.tmps.getD t Go.undef,by simp,?_⟩;have z:=hs.slot t;split at H
     ·cases H
     ·rename_i af;simp only [Ak] at H;subst H;cases he:e t with
      | gd u ab y=>all_goals grind
      | _=>rw [he] at z;exact z
    ·rename_i t Z;split at H
     ·rename_i k aa he;cases hb:(Nat.beq Z aa&&(Γ.P.underlying Z).isSome&&(aaj Γ.P Z||Nat.beq (Γ.P.cellsOf Z) 1)) with
      | false=>all_goals grind
      | true=>
       rw [hb] at H;simp only [Af] at H;simp only [Aj,Bc] at hb;have:=Ae hb.1.1;subst this;split at H
       ·rename_i TB s hk;simp only [Ak] at H;subst H;have z:=hs.slot t;rw [he] at z;simp only [SlotRep] at z;generalize ae:a.tmps.getD t Go.undef=av at z;cases z with
        | @ref _ _ _ ad s' off J hp=>
         rw [hk] at J;cases J;simp only [ab2,Ak,Prod.mk.injEq] at hp;obtain ⟨rfl,rfl⟩:=hp;obtain ⟨o,T2,q1,q2,q3,q4,q5⟩:=hw.box k _ s hk;refine ⟨pack Γ.P TB o,?_,q5⟩;have hl:=ad5 hb.1.2 w (μ k) 0 o (λj v hj=>by all_goals grind [World.cell?]) (λ_=>q2) (λha=>by
          have h1:Γ.P.cellsOf TB=1:=by all_goals grind [Nat.eq_of_beq_eq_true]
          rw [h1] at q2;match o,q2 with
          | [u],_=>all_goals grind)
         all_goals grind [asAddr,Sem.run_bind,Sem.run_pure,Result.andThen_ok]
       ·simp at H
     ·simp at H
   obtain ⟨v,ag,ah⟩:=M;refine ⟨v::O,?_,by simp [h2],λi s u hi hu=>?_⟩;all_goals grind [Sem.run_bind,Result.andThen_ok,Sem.run_pure]
  ·simp at h
theorem Objs.more {P:Program}{D':Dom} (h:Objs P D ow μ st w) (hD:∀ b o,D b o->D' b o) (hN:∀ b o,D' b o->D b o\/(ow b=none/\b<w.heap.size)):Objs P D' ow μ st w:=by
 have z:∀ b k,ow b=some k->∀ o,D' b o->D b o:=λb k J o d=>(hN b o d).resolve_right (λhh=>by grind);have m:Moves D w ow μ st D' w ow μ st:=⟨hD,Keeps.refl _ _,λk T s e=>⟨rfl,s,e⟩,λk K E es e=>⟨rfl,es,e⟩,λk b e _=>⟨rfl,b,e,rfl⟩,λk E g xs e=>⟨g,xs,e,Nat.le_refl _,λ_=>⟨rfl,ArrKeep.refl _ _ _ _ _⟩⟩,λk g e=>⟨g,e,Nat.le_refl _,λ_ b J=>⟨rfl,J,z b k J⟩⟩⟩;refine ⟨λk b hk=>?_,h.owlt,λb o d=>?_,λb k x J e hx o d=>h.lone b k x J e hx o (z b k J o d)⟩
 ·have I:=h.obj k b hk;cases b with
  | box T s=>obtain ⟨c,T',Z,M,O,q4,q5⟩:=I;exact ⟨c,T',Z,M,O,λo d=>q4 o (z _ k O o d),q5.mono m⟩
  | map K E es=>obtain ⟨ents,clock,kc,vc,Z,M,O⟩:=I;exact OMapRep.mono ⟨ents,clock,kc,vc,Z,M,O⟩ m.dom m.keeps rfl rfl M (λo d=>O.1 o (z _ k M o d))
  | acc g=>trivial
  | hole=>trivial
  | iter s p=>exact ObjRep.mono (P:=P) (b:=.iter s p) I m.dom m.keeps (λ_=>rfl) (λc H=>⟨rfl,H,z c k H⟩)
  | mit K E c es=>exact ObjRep.mono (P:=P) (b:=.mit K E c es) I m.dom m.keeps (λ_=>rfl) (λc H=>⟨rfl,H,z c k H⟩)
  | bld T bs=>exact ObjRep.mono (P:=P) (b:=.bld T bs) I m.dom m.keeps (λ_=>rfl) (λc H=>⟨rfl,H,z c k H⟩)
  | arr E g xs=>exact ObjRep.mono (P:=P) (b:=.arr E g xs) I m.dom m.keeps (λ_=>rfl) (λc H=>⟨rfl,H,z c k H⟩)
 ·rcases hN b o d with d | d
  ·exact h.dlt b o d
  ·exact d.2
theorem azz (hw:WRel Γ D ow μ st w) {e:Env}{a:Act} (hs:Slots Γ D ow μ e st a w) {ts:List TypeId}{rs:List ResultVar}{ae:List SV}{sub:List BX}{own:Bool} (h:arc Γ.P own e st Γ.np ts rs=some (ae,sub)):
 ∃ M:List Value,(rs.mapM λr=>(match r with | .tmp t=>pure (a.tmps.getD t Go.undef) | .cell x t=>do loadVar t (<-asAddr (a.tmps.getD x Go.undef)):Sem Value)).run Γ.P w=.ok M w/\
  ∃ (D':Dom) (ks:List Nat),ks.Nodup/\(∃ r,ks=List.range Γ.np++r)/\ahh st (acd ks) (aji st) ks=some sub/\(∀ b o,D b o->D' b o)/\(∀ b o,D' b o->D b o\/∃ k,ow b=some k/\Γ.np<=k)/\
   Objs Γ.P D' (agi ow ks) (λj=>μ (ks.getD j 0)) sub w/\SRep Γ.P D' w (agi ow ks) (λj=>μ (ks.getD j 0)) sub (adg ae) (if h:M.toArray.size=1 then M.toArray[0] else .tuple M.toArray):=by
 unfold arc at h
 split at h
 ·cases h
 ·rename_i H ad;split at h
  ·cases h
  ·rename_i z Z;obtain ⟨M,h1,h2,h3⟩:=aut hw hs rs H ad;cases af:(ac6 own H).all (λk=>!((af3 own st Γ.np z).any (Nat.beq k))) with
   | false=>grind
   | true=>
    rw [af] at h;simp only [Af] at h;split at h
    ·rename_i aj ah hr I;simp only [Ak,Prod.mk.injEq] at h;obtain ⟨rfl,rfl⟩:=h;have hn:=ama own st Γ.np z;obtain ⟨r,ab⟩:=aj7 own st Γ.np z;generalize af3 own st Γ.np z=ks at*;have aa:∀ k,k∈ac6 own H->k∉ks:=by
      grind [List.all_eq_true,Nat.beq,List.any_eq_true,Nat.beq_refl]
     obtain ⟨l1,l2⟩:=asf (fz:=ac6 own H) hw ts H z Z (λk hk=>hk) M h3;have O:∀ b k,k∉ks->ow b=some k->agi ow ks b=none:=λb k hk ob=>aln (λk' ai e=>by grind);refine ⟨M,h1,ac3 D ow μ st (ac6 own H),ks,hn,⟨r,ab⟩,I,λ_ _ d=>Or.inl d,λb o d=>?_,?_,?_⟩
     ·grind [adr,Nat.lt_or_ge,absurd]
     ·refine (hw.objs.sub hn I).more (λ_ _ d=>Or.inl d) (λb o d=>?_);rcases adr d with d | ⟨k,k1,k2,k3⟩
      ·exact Or.inl d
      ·exact Or.inr ⟨O b k (aa k k1) k2,(hw.owlt b k k2).1⟩
     ·refine auw (Emb.sub hn I) ?_ hr;by_cases J:M.length=1
      ·obtain ⟨v,rfl⟩:=List.length_eq_one_iff.1 J;obtain ⟨s,rfl⟩:=List.length_eq_one_iff.1 (show z.length=1 by omega);simpa [adg] using l2 0 s v rfl rfl
      ·have ag:z.length≠1:=by omega
       have hr:adg z=.tup z:=by
        match z,ag with
        | [],_=>rfl
        | [x],h2=>grind
        | x::y::r,_=>rfl
       rw [hr,dif_neg (by simpa using J)];exact .tup (by simp;omega) (λi s v hi hv=>l2 i s v hi (by simpa using hv))
    ·cases h
end
theorem ajh {C:Cfg} (hC:abt C) {f:FuncId}{fn:Func}{c:Code} (hf:C.P.funcs[f]?=some fn) (hb:fn.body=some c) (hn:fn.ntmps=C.n) (ap:(fn.name== "runtime.NumGoroutine")=false) (hL:∀ an,an∈aaw c->LoopOk C an)
 {R:Type}{as:List SV}{st:List BX}{K:List SV->List BX->Option R}{r:R}{ae:List SV}{al:List BX} (h:awd C fn as st K=some r) (aG:as.length<=C.n) (aB:st.length=C.np)
 (hK:∀ rs s,K rs s=some r->∀ (D:Dom) (w:World) (ow:Own) (μ:Nat->Nat) (v:Value) (D':Dom) (w':World),Post C.P D w ow μ st rs s v D' w'->Post C.P D w ow μ st ae al v D' w'/\ahq ae v=ahq rs v):Meets C.P f as st ae al:=by
 refine ⟨aa4 hf ap (by rw [hb];rfl),λD ow μ w H M=>?_⟩
 unfold awd at h
 rw [hb] at h
 simp only at h
 refine calls_of_wp hf hb ?_
 let Γ:Ctx:={ P:=C.P,n:=C.n,B:=w.heap.size,w0:=w,D0:=D,ow0:=ow,np:=st.length,μ0:=μ,K0:=λk=>match st[k]? with | some b=>b.kind | none=>[],L0:=λk=>match st[k]? with | some (.arr _ _ xs)=>xs.length | _=>0,hB:=rfl,tabs:=M.tabs }
 have hw:WRel Γ D ow μ st w:=by
  refine ⟨λk T s e=>M.objs.obj k _ e,λk K E es e=>M.objs.obj k _ e,λk b e=>?_,M.objs.owlt,M.objs.dlt,rfl,rfl,rfl,Nat.le_refl _,λ_ _ _=>rfl,λ_ _ d=>d,λ_ _ d=>Or.inl d,λ_ _ h _=>h,Nat.le_refl _,λ_ _ _=>rfl,λk hk=>?_,M.objs.lone,Keeps.refl _ _,λk hk E xs e=>⟨?_,ArrKeep.refl _ _ _ _ _⟩⟩
  ·have h0:=M.objs.obj k b e;cases b with
   | box T s=>trivial
   | map K E es=>trivial
   | acc g=>trivial
   | hole=>trivial
   | _=>exact h0
  ·have aH:st[k]?=some st[k]:=Am hk;grind
  grind
 have aD:Slots Γ D ow μ (ap4 as) st { tmps:=H++Array.replicate (fn.ntmps-H.size) Go.undef,defers:=[] } w:=by
  refine ⟨by show (H++_).size=C.n;have:=M.size;simp;omega,rfl,λt=>?_⟩;unfold ap4;by_cases ht:t<as.length
  ·have h1:as[t]?=some as[t]:=Am ht;have am:t<H.size:=by rw [M.size];exact ht
   have h2:H[t]?=some H[t]:=Array.getElem?_eq_getElem am;have e1:as.getD t .undef=as[t]:=by simp [List.getD,h1]
   have e2:(H++Array.replicate (fn.ntmps-H.size) Go.undef).getD t Go.undef=H[t]:=by
    have e:∀ (x:Array Value),x.getD t Go.undef=(x[t]?).getD Go.undef:=λx=>by simp
    rw [e,Array.getElem?_append_left am,h2];rfl
   show SlotRep _ _ _ _ _ _ _ (as.getD t .undef) ((H++Array.replicate (fn.ntmps-H.size) Go.undef).getD t Go.undef);rw [e1,e2];exact (M.arg t _ _ h1 h2).slot
  ·have e1:as.getD t .undef=.undef:=by simp [List.getD,Bf (Nat.le_of_not_lt ht)]
   rw [e1];exact .undef
 have aA:NoGd (ap4 as):=by
  intro t u aF x he;unfold ap4 at he;by_cases ht:t<as.length
  ·have h1:as[t]?=some as[t]:=Am ht;have am:t<H.size:=by rw [M.size];exact ht
   have:=M.arg t _ _ h1 (Array.getElem?_eq_getElem am);have e1:as.getD t .undef=as[t]:=by simp [List.getD,h1]
   rw [e1] at he;rw [he] at this;cases this
  ·have e1:as.getD t .undef=.undef:=by simp [List.getD,Bf (Nat.le_of_not_lt ht)]
   rw [e1] at he;cases he
 have aw:∀ (rs:List SV) (s':List BX) (v:Value) (w':World) (D1 D':Dom) (ab:Own) (O:Nat->Nat) (st':List BX) (ks r':List Nat),K rs s'=some r->WRel Γ D1 ab O st' w'->ks.Nodup->ks=List.range st.length++r'->ahh st' (acd ks) (aji st') ks=some s'->
  (∀ b o,D1 b o->D' b o)->(∀ b o,D' b o->D1 b o\/∃ k,ab b=some k/\st.length<=k)->Objs C.P D' (agi ab ks) (λj=>O (ks.getD j 0)) s' w'->ahk C.P D' w' (agi ab ks) (λj=>O (ks.getD j 0)) s' rs v->
  Post C.P D w ow μ st ae al v D' w'/\ahq ae v=ahq rs v:=by
  intro rs s' v w' D1 D' ab O st' ks r' hk z ah af ad hD hN ai aa
  have J:∀ k,k<st.length->ks[k]?=some k:=by intro k hk;rw [af,A3 (by simpa using hk)];simp [hk]
  obtain ⟨l1,l2⟩:=aiw ks s' ad
  refine hK rs s' hk D w ow μ _ D' w' ⟨λb o d=>hD b o (z.dom0 b o d),λb o d=>?_,⟨agi ab ks,λj=>O (ks.getD j 0),ai,aa,λb j hb ao=>?_,λk b ak=>?_,λk E g xs ys ak aj=>?_⟩,z.os,z.tape,z.output,z.hs,z.old,z.keep0⟩
  ·rcases hN b o d with d | ⟨k,k1,k2⟩
   ·exact z.domN b o d
   ·rcases Nat.lt_or_ge b w.heap.size with ao | az
    ·have h0:=z.owN b k k1 ao;have:=(M.objs.owlt b k h0).2;omega
    ·exact Or.inr (Or.inl az)
  ·obtain ⟨k,hj,aC⟩:=aeu hb;have h0:=z.owN b k aC ao;have I:=(M.objs.owlt b k h0).2;have:=aoj ah hj (J k I);subst this;exact h0
  ·have I:=(A5.1 ak).1;obtain ⟨x,hx,p1⟩:=z.par k I;obtain ⟨b1,b2,q1,q2,q3⟩:=l2 k k (J k I);rw [hx] at q1;cases q1;have hK:Γ.K0 k=b.kind:=by show (match st[k]? with | some b=>b.kind | none=>[])=_;rw [ak]
   refine ⟨b2,q3,(acl q2).1.trans (p1.trans hK),λ_ aq=>?_⟩;have e:ks.getD k 0=k:=by simp [List.getD,J k I]
   show O (ks.getD k 0)=μ k;rw [e];refine z.mu0 k I (λE hE=>?_);rw [hK] at hE;obtain ⟨g,xs,rfl⟩:=aim hE;exact aq _ _ _ rfl
  ·have I:=(A5.1 ak).1;obtain ⟨b1,b2,q1,q2,q3⟩:=l2 k k (J k I);rw [aj] at q3;cases q3;obtain ⟨g1,zs,rfl⟩:=aim (acl q2).1.symm;have aE:=(acl q2).2.2 _ _ _ rfl;have av:aji st' k=(bif Nat.beq g1 0 then 0 else 1):=by unfold aji;rw [q1]
   injection aE with _ q4 q5;subst q5;have ay:g1=0:=by
    rw [av] at q4;cases hb:Nat.beq g1 0 with
    | true=>exact Ae hb
    | false=>rw [hb] at q4;simp at q4
   subst ay;obtain ⟨r1,r2⟩:=z.arr0 k I E ys q1;have hL:Γ.L0 k=xs.length:=by show (match st[k]? with | some (.arr _ _ xs)=>xs.length | _=>0)=_;rw [ak]
   refine ⟨r1.trans hL,λcur hc ho=>?_⟩;obtain ⟨t1,t2,cur',t3,t4⟩:=r2 cur hc ho;have e:ks.getD k 0=k:=by simp [List.getD,J k I]
   refine ⟨?_,ar7 ah (J k I) t2,cur',t3,t4⟩;show O (ks.getD k 0)=μ k;rw [e];exact t1
 have fin:∀ e' st' a' w',(match arc C.P C.own e' st' st.length fn.resultTypes.toList fn.results.toList with | some (rs,s')=>K rs s' | none=>none)=some r->Rel Γ e' st' a' w'->
  a'.defers=[]/\∃ v,(results fn a'.tmps).run C.P w'=.ok v w'/\∃ ax D',Ending.returned v=ahq ae ax/\Post C.P D w ow μ st ae al ax D' w':=by
  intro e' st' a' w' hk ag
  obtain ⟨D1,ab,O,z,aj⟩:=ag
  split at hk
  ·rename_i rs s' Z;obtain ⟨vs,h1,D',ks,ah,⟨r',af⟩,ad,hD,hN,ai,aa⟩:=azz z aj Z;obtain ⟨aa,au⟩:=afa aa;obtain ⟨hp,he⟩:=aw rs s' _ w' D1 D' ab O st' ks r' hk z ah af ad hD hN ai aa;refine ⟨aj.defers,if h:vs.toArray.size=1 then vs.toArray[0] else .tuple vs.toArray,?_,_,D',(he.trans au).symm,hp⟩;unfold results;rw [Sem.run_bind,Array.mapM_eq_mapM_toList,Sem.run_map];exact congrArg (λr:Result (List Value)=>(r.andThen λa w'=>Result.ok a.toArray w').andThen λa w'=>Sem.run C.P (pure (if h:a.size=1 then a[0] else Value.tuple a)) w') (h1:_=_)
  ·simp at hk
 have Z:=aif (Γ:=Γ) hC rfl rfl aB r c hL _ (ap4 as) st h (bodyPost C.P fn (λe w'=>∃ v D',e=ahq ae v/\Post C.P D w ow μ st ae al v D' w'))
  (λe' st' a' w' hk _ ag=>fin e' st' a' w' hk ag) (λi e' st' a' w' hk _ _=>by simp at hk) (λe' st' a' w' hk _ ag=>fin e' st' a' w' hk ag) (λs st' v a' w' hk hp=>?_) _ w ⟨D,ow,μ,hw,aD⟩ aA
 ·exact Z
 obtain ⟨ar,D1,ab,O,z,aj⟩:=hp
 refine ⟨ar,?_⟩
 simp only at hk
 split at hk
 ·rename_i rs s' Z;unfold a2t at Z;split at Z
  ·rename_i T x;split at Z
   ·rename_i x' sub hc ad;simp only [Ak,Prod.mk.injEq] at Z;obtain ⟨rfl,rfl⟩:=Z;have ah:=ama false st' st.length [];obtain ⟨r',af⟩:=aj7 false st' st.length [];have aa:ahk C.P D1 w' (agi ab (af3 false st' st.length [])) (λj=>O ((af3 false st' st.length []).getD j 0)) sub [.pan (.ifc T x')] v:=by
     cases aj with
     | ifc hu=>exact .ifc (ab1 hu hc _ _ _)
    obtain ⟨hp,he⟩:=aw _ _ v w' D1 D1 ab O st' _ r' hk z ah af ad (λ_ _ d=>d) (λ_ _ d=>Or.inl d) (z.objs.sub ah ad) aa;exact ⟨v,D1,he.symm,hp⟩
   ·cases Z
  ·cases Z
 ·cases hk
end Go.Ab
