/- The evaluator is sound: code, functions. -/
import Derived.Test.YtodichgnoiaanaaGreatAbDraw
set_option linter.unusedVariables false
set_option linter.unusedSimpArgs false
set_option linter.unnecessarySimpa false
namespace Go.Ab
open Go
def NoGd (e:Env):Prop:=∀ t u want x,e t≠.gd u want x
theorem NoGd.inv {e:Env} (h:NoGd e) (l:List Oper):GInv e l:=fun t u want x he=>absurd he (h t u want x)
theorem NoGd.sweep (e:Env):NoGd (sweep e):=by
 intro t u want x h
 unfold Ab.sweep at h
 split at h
 ·cases h
 ·rename_i v hne
  exact hne u want x h
theorem NoGd.set {e:Env} (h:NoGd e) (t:Nat) {s:SV} (hs:∀ u want x,s≠.gd u want x):NoGd (e.set t s):=by
 intro t' u want x he
 unfold Env.set at he
 cases hb:Nat.beq t' t with
 | true=>rw [hb] at he;exact hs u want x he
 | false=>rw [hb] at he;exact h t' u want x he
theorem Rel.less {Γ:Ctx}{e e':Env}{st:List BX}{a:Act}{w:World} (h:Rel Γ e st a w) (hle:∀ t,e' t=.undef∨e' t=e t):Rel Γ e' st a w:=by
 obtain ⟨D,ow,μ,hw,hs⟩:=h
 refine ⟨D,ow,μ,hw,hs.size,hs.defers,fun t=>?_⟩
 rcases hle t with h | h
 ·rw [h];exact .undef
 ·rw [h];exact hs.slot t
theorem Rel.sweep {Γ:Ctx}{e:Env}{st:List BX}{a:Act}{w:World} (h:Rel Γ e st a w):Rel Γ (sweep e) st a w:=
 h.less fun t=>by unfold Ab.sweep;split<;>simp
theorem akw {Γ:Ctx}{R:Type}{C:Cfg} (hC:aai C) (hP:C.P=Γ.P) (hn:Γ.n=C.n) (hnp:Γ.np=C.np) {ops:Array Oper}{r:R}{K:Env->List BX->Option R}{X:SV->List BX->Option R}{Q:Exit->Act->World->Prop}
 (hK:∀ e' st' a' w',K e' st'=some r->Rel Γ e' st' a' w'->Q .normal a' w') (hX:∀ s st' v a' w',X s st'=some r->PRel Γ s st' v a' w'->Q (.panic [{ v,recovered:=false }]) a' w'):∀ (l:List Oper) (i:Nat),ops.toList.drop i=l->∀ (e:Env) (st:List BX),ah0 C ops l e st K X=some r->∀ (a:Act) (w:World),Rel Γ e st a w->GInv e l->wpOps Γ.P ops Q (List.range' i l.length) a w:=by
 intro l
 induction l with
 | nil=>intro i hl e st h a w hrel hg;exact hK _ _ _ _ h hrel
 | cons o rest ih=>
  intro i hl e st h a w hrel hg
  have ho:ops[i]?=some o:=by
   have:(ops.toList.drop i)[0]?=some o:=by rw [hl];rfl
   simpa using this
  have hl':ops.toList.drop (i+1)=rest:=by
   have:(ops.toList.drop i).drop 1=rest:=by rw [hl];rfl
   rwa [List.drop_drop] at this
  simp only [List.length_cons,List.range'_succ]
  rw [wpOps_cons]
  unfold ah0 at h
  exact aui hC hP hn hnp ho h hrel hg _ Q (fun e' st' a' w' h' hg' hrel'=>ih (i+1) hl' e' st' h' a' w' hrel' hg') hX
def au1 (Γ:Ctx) (x:LEx) (e:Env) (st:List BX) (Q:Exit->Act->World->Prop):Prop:=
 match x with
 | .exit i=>∀ a w,Rel Γ e st a w->Q (.exit i) a w
 | .ret=>∀ a w,Rel Γ e st a w->Q .ret a w
 | .pan=>∀ v a w,PRel Γ (e 0) st v a w->Q (.panic [{ v,recovered:=false }]) a w
def au2 (C:Cfg) (body:Code) (m:Nat) (e:Env) (st:List BX) (x:LEx) (e':Env) (st':List BX):Prop:=
 ∀ (Γ:Ctx),Γ.P=C.P->Γ.n=C.n->Γ.np=C.np->∀ (Q:Exit->Act->World->Prop) (a:Act) (w:World),Rel Γ e st a w->NoGd e->au1 Γ x e' st' Q->Code.rounds C.P body Q m a w
def LoopOk (C:Cfg) (body:Code):Prop:=∀ (R:Type) (e:Env) (st:List BX) (K:LEx->Env->List BX->Option R) (r:R),C.lam R (ai1 body) e st K=some r->
 ∃ m,∀ (Γ:Ctx),Γ.P=C.P->Γ.n=C.n->Γ.np=C.np->∀ (Q:Exit->Act->World->Prop) (a:Act) (w:World),Rel Γ e st a w->NoGd e->
  (∀ x e' st',K x e' st'=some r->NoGd e'->au1 Γ x e' st' Q)->Code.rounds C.P body Q m a w
theorem LoopOk.one {C:Cfg}{body:Code} (h:∀ (R:Type) (e:Env) (st:List BX) (K:LEx->Env->List BX->Option R) (r:R),C.lam R (ai1 body) e st K=some r->
 ∃ x e' st' m,K x e' st'=some r/\NoGd e'/\au2 C body m e st x e' st'):LoopOk C body:=fun R e st K r hr=>by
 obtain ⟨x,e',st',m,hk,hg,hgo⟩:=h R e st K r hr
 exact ⟨m,fun Γ h1 h2 h3 Q a w hrel hn hQ=>hgo Γ h1 h2 h3 Q a w hrel hn (hQ x e' st' hk hg)⟩
def aau:Code->List Code
 | .seq a b=>aau a++aau b
 | .cond _ a b=>aau a++aau b
 | .block _ c=>aau c
 | .loop c=>[c]
 | _=>[]
theorem aj5 {Γ:Ctx}{R:Type}{C:Cfg} (hC:aai C) (hP:C.P=Γ.P) (hn:Γ.n=C.n) (hnp:Γ.np=C.np) (r:R):∀ (c:Code),(∀ body,body∈aau c->LoopOk C body)->∀ (K:Ks R) (e:Env) (st:List BX),exec C c K e st=some r->
 ∀ (Q:Exit->Act->World->Prop),(∀ e' st' a' w',K.norm e' st'=some r->NoGd e'->Rel Γ e' st' a' w'->Q .normal a' w')->(∀ i e' st' a' w',K.exit i e' st'=some r->NoGd e'->Rel Γ e' st' a' w'->Q (.exit i) a' w')->
  (∀ e' st' a' w',K.ret e' st'=some r->NoGd e'->Rel Γ e' st' a' w'->Q .ret a' w')->(∀ s st' v a' w',K.pan s st'=some r->PRel Γ s st' v a' w'->Q (.panic [{ v,recovered:=false }]) a' w')->∀ (a:Act) (w:World),Rel Γ e st a w->NoGd e->c.wp Γ.P Q a w:=by
 intro c
 induction c with
 | skip=>intro _ K e st h Q h1 h2 h3 h4 a w hrel hg;exact wp_skip (h1 _ _ _ _ h hg hrel)
 | region id ops draw=>
  intro _ K e st h Q h1 h2 h3 h4 a w hrel hg
  unfold exec runR at h
  cases draw with
  | false=>
   simp only [cond_false] at h
   refine wp_region ?_
   have:=akw hC hP hn hnp (ops:=ops) (Q:=Q) (fun e' st' a' w' hk hrel'=>h1 _ _ a' w' hk (NoGd.sweep e') hrel'.sweep) h4 ops.toList 0 (by simp) e st h a w hrel (hg.inv _)
   rwa [<-List.range_eq_range',Array.length_toList] at this
  | true=>
   simp only [cond_true] at h
   cases hd:aqz C.P ops with
   | false=>rw [hd] at h;cases h
   | true=>
    rw [hd] at h
    simp only [cond_true] at h
    have hm:Γ.P.follows .mixedOrders=true:=by
     rw [hP] at hd
     simp only [aqz,Bool.and_eq_true] at hd
     exact hd.1.1
    have hrel':Rel Γ e st a { w with drawn:=w.drawn+1 }:=by
     obtain ⟨D,ow,μ,hw,hs⟩:=hrel
     obtain ⟨h1,h2⟩:=hw.drawn (w.drawn+1)
     exact ⟨D,ow,μ,h1,hs.mono h2⟩
    exact wp_region_any hm (axv hC hP hn (by rw [<-hP];exact hd) h hg (fun e' st' a' w' hk hrel'=>h1 _ _ a' w' hk (NoGd.sweep e') hrel'.sweep) h4 a _ hrel')
 | seq x y ihx ihy=>
  intro hL K e st h Q h1 h2 h3 h4 a w hrel hg
  unfold exec at h
  refine wp_seq (ihx (fun b hb=>hL b (by simp [aau,hb])) _ e st h (Exit.then (y.wp Γ.P Q) Q) (fun e' st' a' w' hk hg' hrel'=>?_) h2 h3 h4 a w hrel hg)
  exact ihy (fun b hb=>hL b (by simp [aau,hb])) K e' st' hk Q h1 h2 h3 h4 a' w' hrel' hg'
 | cond c x y ihx ihy=>
  intro hL K e st h Q h1 h2 h3 h4 a w hrel hg
  unfold exec at h
  have hLx:∀ body,body∈aau x->LoopOk C body:=fun b hb=>hL b (by simp [aau,hb])
  have hLy:∀ body,body∈aau y->LoopOk C body:=fun b hb=>hL b (by simp [aau,hb])
  split at h
  ·rename_i t
   split at h
   ·rename_i b hb
    have ht:a.eval (.tmp t)=.bool b:=by
     obtain ⟨D,ow,μ,hw,hs⟩:=hrel
     have:=hs.slot t
     rw [hb] at this
     show a.tmps.getD t Go.undef=_
     generalize a.tmps.getD t Go.undef=v at this
     cases this;rfl
    have hset:∀ b',b'=b->Rel Γ (e.set t (.bool b')) st a w:=by
     intro b' hbb
     obtain ⟨D,ow,μ,hw,hs⟩:=hrel
     refine ⟨D,ow,μ,hw,hs.size,hs.defers,fun t'=>?_⟩
     unfold Env.set
     cases hb2:Nat.beq t' t with
     | true=>
      have:=Nat.eq_of_beq_eq_true hb2;subst this
      rw [hbb]
      have:=hs.slot t'
      rwa [hb] at this
     | false=>exact hs.slot t'
    cases b with
    | true=>exact wp_cond_true ht (ihx hLx K _ st h Q h1 h2 h3 h4 a w (hset true rfl) (hg.set t (by simp)))
    | false=>exact wp_cond_false ht (ihy hLy K _ st h Q h1 h2 h3 h4 a w (hset false rfl) (hg.set t (by simp)))
   ·simp at h
  ·rename_i b
   cases b with
   | true=>exact wp_cond_true rfl (ihx hLx K e st h Q h1 h2 h3 h4 a w hrel hg)
   | false=>exact wp_cond_false rfl (ihy hLy K e st h Q h1 h2 h3 h4 a w hrel hg)
  ·simp at h
 | block id body ih=>
  intro hL K e st h Q h1 h2 h3 h4 a w hrel hg
  unfold exec at h
  refine wp_block (ih (fun b hb=>hL b (by simpa [aau] using hb)) _ e st h (Exit.inBlock id Q) h1 (fun i e' st' a' w' hk hg' hrel'=>?_) h3 h4 a w hrel hg)
  show Exit.inBlock id Q (.exit i) a' w'
  unfold Exit.inBlock
  by_cases hi:i=id
  ·subst hi
   simp only [if_true]
   simp only [Nat.beq_refl,cond_true] at hk
   exact h1 _ _ _ _ hk hg' hrel'
  ·simp only [hi,if_false]
   have hb:Nat.beq i id=false:=by
    cases hc:Nat.beq i id with
    | false=>rfl
    | true=>exact absurd (Nat.eq_of_beq_eq_true hc) hi
   simp only [hb,cond_false] at hk
   exact h2 _ _ _ _ _ hk hg' hrel'
 | loop body _=>
  intro hL K e st h Q h1 h2 h3 h4 a w hrel hg
  unfold exec at h
  obtain ⟨m,hgo⟩:=hL body (by simp [aau]) R e st _ r h
  rw [hP] at hgo
  refine wp_loop_rounds m (hgo Γ rfl hn hnp Q a w hrel hg (fun x e' st' hk hg'=>?_))
  cases x with
  | exit i=>exact fun a' w' hrel'=>h2 i _ _ _ _ hk hg' hrel'
  | ret=>exact fun a' w' hrel'=>h3 _ _ _ _ hk hg' hrel'
  | pan=>exact fun v a' w' hp=>h4 _ _ v _ _ hk hp
 | exit id=>intro _ K e st h Q h1 h2 h3 h4 a w hrel hg;exact wp_exit (h2 _ _ _ _ _ h hg hrel)
 | ret=>intro _ K e st h Q h1 h2 h3 h4 a w hrel hg;exact wp_ret (h3 _ _ _ _ h hg hrel)
 | rangeFunc=>intro _ K e st h;simp [exec] at h
 | scope=>intro _ K e st h;simp [exec] at h
 | label=>intro _ K e st h;simp [exec] at h
 | goto=>intro _ K e st h;simp [exec] at h
 | refuse=>intro _ K e st h;simp [exec] at h
theorem axf {C:Cfg} (hC:aai C) {body:Code} (hL:∀ b,b∈aau body->LoopOk C b) {R:Type}{r:R}{K:Ks R}{e:Env}{st:List BX} (h:exec C body K e st=some r) {x:LEx}{e':Env}{st':List BX}
 {m:Nat} (hnorm:∀ e1 st1,K.norm e1 st1=some r->NoGd e1->au2 C body m e1 st1 x e' st')
 (hexit:∀ i e1 st1,K.exit i e1 st1=some r->NoGd e1->x=.exit i/\∀ (Γ:Ctx) (a:Act) (w:World),Γ.P=C.P->Γ.np=C.np->Rel Γ e1 st1 a w->Rel Γ e' st' a w)
 (hret:∀ e1 st1,K.ret e1 st1=some r->NoGd e1->x=.ret/\∀ (Γ:Ctx) (a:Act) (w:World),Γ.P=C.P->Γ.np=C.np->Rel Γ e1 st1 a w->Rel Γ e' st' a w)
 (hpan:∀ s st1,K.pan s st1=some r->x=.pan/\∀ (Γ:Ctx) (v:Value) (a:Act) (w:World),Γ.P=C.P->Γ.np=C.np->PRel Γ s st1 v a w->PRel Γ (e' 0) st' v a w):au2 C body (m+1) e st x e' st':=by
 intro Γ hΓP hΓn hΓnp Q a w hrel hg hQ
 rw [rounds_succ]
 have hw:body.wp Γ.P (Exit.then (Code.rounds C.P body Q m) Q) a w:=by
  refine aj5 hC hΓP.symm hΓn hΓnp r body hL K e st h (Exit.then (Code.rounds C.P body Q m) Q) (fun e1 st1 a1 w1 hk hg1 hrel1=>?_) (fun i e1 st1 a1 w1 hk hg1 hrel1=>?_) (fun e1 st1 a1 w1 hk hg1 hrel1=>?_) (fun s st1 v a1 w1 hk hp=>?_) a w hrel hg
  ·exact hnorm e1 st1 hk hg1 Γ hΓP hΓn hΓnp Q a1 w1 hrel1 hg1 hQ
  ·obtain ⟨rfl,hle⟩:=hexit i e1 st1 hk hg1
   exact hQ a1 w1 (hle Γ a1 w1 hΓP hΓnp hrel1)
  ·obtain ⟨rfl,hle⟩:=hret e1 st1 hk hg1
   exact hQ a1 w1 (hle Γ a1 w1 hΓP hΓnp hrel1)
  ·obtain ⟨rfl,hle⟩:=hpan s st1 hk
   exact hQ v a1 w1 (hle Γ v a1 w1 hΓP hΓnp hp)
 rw [hΓP] at hw
 exact hw
end Go.Ab
namespace Go.Ab
open Go
section
variable {Γ:Ctx}{D:Dom}{ow:Own}{μ:Nat->Nat}{st:List BX}{w:World}
def owTo (ow:Own) (n:Nat):Own:=fun b=>match ow b with | some k=>if k<n then some k else none | none=>none
theorem owTo_some {n b k:Nat}:owTo ow n b=some k ↔ ow b=some k/\k<n:=by
 unfold owTo
 cases h:ow b with
 | none=>simp
 | some j=>
  by_cases hj:j<n
  ·simp only [hj,if_true,Option.some.injEq]
   exact ⟨fun e=>by subst e;exact ⟨rfl,hj⟩,fun e=>e.1⟩
  ·simp only [hj,if_false,Option.some.injEq]
   exact ⟨fun e=>by simp at e,fun e=>by have:=e.1;have:=e.2;omega⟩
theorem aug {own:Bool}{T:TypeId}{s s':SV}{v:Value}{fz:List Nat} (hw:WRel Γ D ow μ st w) (h:SRep Γ.P D w ow μ st s v) (hr:a6c Γ.P own st T s=some s') (hf:∀ k,k∈frozen own [s]->k∈fz):SRep Γ.P (ade D ow μ st fz) w ow μ st s' v:=by
 have m:Moves D w ow μ st (ade D ow μ st fz) w ow μ st:=ag3 fz
 unfold a6c at hr
 split at hr
 ·rename_i k
  split at hr
  ·rename_i K E es hk
   simp only [Option.some.injEq] at hr;subst hr
   cases h
   obtain ⟨ents,clock,kc,vc,r1,r2,r3,r4,r5,r6,r7,_⟩:=hw.map k K E es hk
   exact .map (.mk kc vc r1 (Or.inr ⟨k,_,hf k (by simp [frozen]),hk,Or.inl ⟨K,E,es,rfl⟩,r2,rfl⟩) r4 (fun i x a=>(r5 i x a).mono m.dom m.keeps) (fun i x a=>(r6 i x a).mono m.dom m.keeps) r7)
  ·simp at hr
 ·rename_i k g E
  cases own with
  | true=>simp only [cond_true,Option.some.injEq] at hr;subst hr;exact h.mono m
  | false=>
   simp only [cond_false] at hr
   split at hr
   ·rename_i xs hat
    simp only [Option.some.injEq] at hr;subst hr
    exact aze hw h hat (hf k (by simp [frozen]))
   ·cases hr
 ·simp at hr
 ·simp only [Option.some.injEq] at hr;subst hr;exact h.mono m
 ·simp only [Option.some.injEq] at hr;subst hr;exact h.mono m
 ·rename_i T' fs
  cases own with
  | true=>
   simp only [cond_true] at hr
   split at hr
   ·rename_i x hx
    simp only [Option.some.injEq] at hr;subst hr
    exact (ab7 (h.mono m) hx) _ _ _
   ·simp only [Option.some.injEq] at hr;subst hr;exact h.mono m
  | false=>
   simp only [cond_false] at hr
   have h2:=aka (fz:=fz) hw h (fun k hk=>hf k (by simp only [alj] at hk;simp [frozen,hk]))
   split at hr
   ·rename_i x hx
    simp only [Option.some.injEq] at hr;subst hr
    exact (ab7 h2 hx) _ _ _
   ·simp only [Option.some.injEq] at hr;subst hr;exact h2
 ·cases own with
  | true=>simp only [cond_true,Option.some.injEq] at hr;subst hr;exact h.mono m
  | false=>simp only [cond_false] at hr;exact (ab7 (h.mono m) hr) _ _ _
 ·exact (ab7 (h.mono m) hr) _ _ _
theorem ap8 {own:Bool}{fz:List Nat} (hw:WRel Γ D ow μ st w):∀ (ts:List TypeId) (ss out:List SV),aif Γ.P own st ts ss=some out->(∀ k,k∈frozen own ss->k∈fz)->∀ (vs:List Value),(∀ (i:Nat) (s:SV) (v:Value),ss[i]?=some s->vs[i]?=some v->SRep Γ.P D w ow μ st s v)->
 out.length=ss.length/\∀ (i:Nat) (s:SV) (v:Value),out[i]?=some s->vs[i]?=some v->SRep Γ.P (ade D ow μ st fz) w ow μ st s v:=by
 intro ts
 induction ts with
 | nil=>
  intro ss out h hf vs hvs
  cases ss with
  | nil=>simp [aif] at h;subst h;exact ⟨rfl,fun i s v hi=>by simp at hi⟩
  | cons=>simp [aif] at h
 | cons T ts ih=>
  intro ss out h hf vs hvs
  cases ss with
  | nil=>simp [aif] at h
  | cons s ss=>
   simp only [aif] at h
   split at h
   ·rename_i x q hx hq
    simp only [Option.some.injEq] at h;subst h
    have hf1:∀ k,k∈frozen own [s]->k∈fz:=fun k hk=>hf k (by cases own<;>cases s<;>simp_all [frozen])
    have hf2:∀ k,k∈frozen own ss->k∈fz:=fun k hk=>hf k (by cases own<;>cases s<;>simp_all [frozen])
    obtain ⟨h1,h2⟩:=ih ss q hq hf2 vs.tail (fun i s v hi hv=>hvs (i+1) s v (by simpa using hi) (by simpa using hv))
    refine ⟨by simp [h1],fun i y v hi hv=>?_⟩
    cases i with
    | zero=>simp at hi;subst hi;exact aug hw (hvs 0 s v (by simp) hv) hx hf1
    | succ i=>exact h2 i y v (by simpa using hi) (by simpa using hv)
   ·cases h
theorem ar0 (hw:WRel Γ D ow μ st w) {e:Env}{a:Act} (hs:Slots Γ D ow μ e st a w):∀ (rs:List ResultVar) (out:List SV),arz Γ.P e st rs=some out->
 ∃ vs:List Value,(rs.mapM fun r=>(match r with | .tmp t=>pure (a.tmps.getD t Go.undef) | .cell x t=>do loadVar t (<-asAddr (a.tmps.getD x Go.undef)):Sem Value)).run Γ.P w=.ok vs w/\vs.length=out.length/\
  ∀ (i:Nat) (s:SV) (v:Value),out[i]?=some s->vs[i]?=some v->SRep Γ.P D w ow μ st s v:=by
 intro rs
 induction rs with
 | nil=>intro out h;simp [arz] at h;subst h;exact ⟨[],by simp,rfl,fun i s v hi=>by simp at hi⟩
 | cons r rr ih=>
  intro out h
  unfold arz at h
  split at h
  ·rename_i x q hx hq
   simp only [Option.some.injEq] at h;subst h
   obtain ⟨vs,h1,h2,h3⟩:=ih q hq
   have hone:∃ v,(match r with | .tmp t=>pure (a.tmps.getD t Go.undef) | .cell x t=>do loadVar t (<-asAddr (a.tmps.getD x Go.undef)):Sem Value).run Γ.P w=.ok v w/\SRep Γ.P D w ow μ st x v:=by
    unfold a4o at hx
    split at hx
    ·rename_i t
     refine ⟨a.tmps.getD t Go.undef,by simp,?_⟩
     have hst:=hs.slot t
     split at hx
     ·cases hx
     ·rename_i hne
      simp only [Option.some.injEq] at hx
      subst hx
      cases he:e t with
      | gd u want y=>exact absurd he (hne u want y)
      | _=>rw [he] at hst;exact hst
    ·rename_i t T'
     split at hx
     ·rename_i k T'' he
      cases hb:(Nat.beq T' T''&&(Γ.P.underlying T').isSome&&(aaj Γ.P T'||Nat.beq (Γ.P.cellsOf T') 1)) with
      | false=>rw [hb] at hx;simp at hx
      | true=>
       rw [hb] at hx
       simp only [cond_true] at hx
       simp only [Bool.and_eq_true,Bool.or_eq_true] at hb
       have:=Nat.eq_of_beq_eq_true hb.1.1;subst this
       split at hx
       ·rename_i TB s hk
        simp only [Option.some.injEq] at hx;subst hx
        have hst:=hs.slot t
        rw [he] at hst
        simp only [SlotRep] at hst
        generalize hav:a.tmps.getD t Go.undef=av at hst
        cases hst with
        | @ref _ _ _ TB' s' off hk' hp=>
         rw [hk] at hk';cases hk'
         simp only [aby,Option.some.injEq,Prod.mk.injEq] at hp
         obtain ⟨rfl,rfl⟩:=hp
         obtain ⟨cells,T2,q1,q2,q3,q4,q5⟩:=hw.box k _ s hk
         refine ⟨pack Γ.P TB cells,?_,q5⟩
         have hl:=adm hb.1.2 w (μ k) 0 cells (fun j v hj=>by simp [World.cell?,q1,hj]) (fun _=>q2) (fun ha=>by
          have h1:Γ.P.cellsOf TB=1:=by
             rcases hb.2 with h | h
             ·rw [ha] at h;cases h
             ·exact Nat.eq_of_beq_eq_true h
          rw [h1] at q2
          match cells,q2 with
          | [u],_=>exact ⟨u,rfl⟩)
         simp only [hav,asAddr,Sem.run_bind,Sem.run_pure,Result.andThen_ok]
         exact hl
       ·simp at hx
     ·simp at hx
   obtain ⟨v,hv1,hv2⟩:=hone
   refine ⟨v::vs,?_,by simp [h2],fun i s u hi hu=>?_⟩
   ·simp only [List.mapM_cons,Sem.run_bind,hv1,Result.andThen_ok,h1,Sem.run_pure]
   ·cases i with
    | zero=>simp at hi hu;subst hi;subst hu;exact hv2
    | succ i=>exact h3 i s u (by simpa using hi) (by simpa using hu)
  ·simp at h
theorem Objs.more {P:Program}{D':Dom} (h:Objs P D ow μ st w) (hD:∀ b o,D b o->D' b o) (hN:∀ b o,D' b o->D b o∨(ow b=none/\b<w.heap.size)):Objs P D' ow μ st w:=by
 have hno:∀ b k,ow b=some k->∀ o,D' b o->D b o:=fun b k ob o d=>(hN b o d).resolve_right (fun hh=>by rw [ob] at hh;cases hh.1)
 have m:Moves D w ow μ st D' w ow μ st:=⟨hD,Keeps.refl _ _,fun k T s e=>⟨rfl,s,e⟩,fun k K E es e=>⟨rfl,es,e⟩,fun k b e _=>⟨rfl,b,e,rfl⟩,fun k E g xs e=>⟨g,xs,e,Nat.le_refl _,fun _=>⟨rfl,ArrKeep.refl _ _ _ _ _⟩⟩,fun k g e=>⟨g,e,Nat.le_refl _,fun _ b ob=>⟨rfl,ob,hno b k ob⟩⟩⟩
 refine ⟨fun k b hk=>?_,h.owlt,fun b o d=>?_,fun b k x ob e hx o d=>h.lone b k x ob e hx o (hno b k ob o d)⟩
 ·have h0:=h.obj k b hk
  cases b with
  | box T s=>
   obtain ⟨c,T',q1,q2,q3,q4,q5⟩:=h0
   exact ⟨c,T',q1,q2,q3,fun o d=>q4 o (hno _ k q3 o d),q5.mono m⟩
  | map K E es=>
   obtain ⟨ents,clock,kc,vc,q1,q2,q3⟩:=h0
   exact OMapRep.mono ⟨ents,clock,kc,vc,q1,q2,q3⟩ m.dom m.keeps rfl rfl q2 (fun o d=>q3.1 o (hno _ k q2 o d))
  | acc g=>trivial
  | hole=>trivial
  | iter s p=>exact ObjRep.mono (P:=P) (b:=.iter s p) h0 m.dom m.keeps (fun _=>rfl) (fun c oc=>⟨rfl,oc,hno c k oc⟩)
  | mit K E c es=>exact ObjRep.mono (P:=P) (b:=.mit K E c es) h0 m.dom m.keeps (fun _=>rfl) (fun c oc=>⟨rfl,oc,hno c k oc⟩)
  | bld T bs=>exact ObjRep.mono (P:=P) (b:=.bld T bs) h0 m.dom m.keeps (fun _=>rfl) (fun c oc=>⟨rfl,oc,hno c k oc⟩)
  | arr E g xs=>exact ObjRep.mono (P:=P) (b:=.arr E g xs) h0 m.dom m.keeps (fun _=>rfl) (fun c oc=>⟨rfl,oc,hno c k oc⟩)
 ·rcases hN b o d with d | d
  ·exact h.dlt b o d
  ·exact d.2
theorem aws (hw:WRel Γ D ow μ st w) {e:Env}{a:Act} (hs:Slots Γ D ow μ e st a w) {ts:List TypeId}{rs:List ResultVar}{vs':List SV}{sub:List BX}{own:Bool} (h:ao5 Γ.P own e st Γ.np ts rs=some (vs',sub)):
 ∃ vs:List Value,(rs.mapM fun r=>(match r with | .tmp t=>pure (a.tmps.getD t Go.undef) | .cell x t=>do loadVar t (<-asAddr (a.tmps.getD x Go.undef)):Sem Value)).run Γ.P w=.ok vs w/\
  ∃ (D':Dom) (ks:List Nat),ks.Nodup/\(∃ r,ks=List.range Γ.np++r)/\agb st (ab8 ks) (ah4 st) ks=some sub/\(∀ b o,D b o->D' b o)/\(∀ b o,D' b o->D b o∨∃ k,ow b=some k/\Γ.np<=k)/\
   Objs Γ.P D' (afi ow ks) (fun j=>μ (ks.getD j 0)) sub w/\SRep Γ.P D' w (afi ow ks) (fun j=>μ (ks.getD j 0)) sub (adf vs') (if h:vs.toArray.size=1 then vs.toArray[0] else .tuple vs.toArray):=by
 unfold ao5 at h
 split at h
 ·cases h
 ·rename_i raws hraw
  split at h
  ·cases h
  ·rename_i vals hvals
   obtain ⟨vs,h1,h2,h3⟩:=ar0 hw hs rs raws hraw
   cases hfz:(frozen own raws).all (fun k=>!((ae5 st Γ.np vals).any (Nat.beq k))) with
   | false=>rw [hfz] at h;cases h
   | true=>
    rw [hfz] at h
    simp only [cond_true] at h
    split at h
    ·rename_i vs1 sub1 hr hsub
     simp only [Option.some.injEq,Prod.mk.injEq] at h
     obtain ⟨rfl,rfl⟩:=h
     have hn:=akm st Γ.np vals
     obtain ⟨r,hpre⟩:=ait st Γ.np vals
     generalize ae5 st Γ.np vals=ks at*
     have hnot:∀ k,k∈frozen own raws->k∉ks:=by
      intro k hk hm
      have:=List.all_eq_true.1 hfz k hk
      have h2:ks.any (Nat.beq k)=true:=List.any_eq_true.2 ⟨k,hm,Nat.beq_refl k⟩
      rw [h2] at this;cases this
     obtain ⟨l1,l2⟩:=ap8 (fz:=frozen own raws) hw ts raws vals hvals (fun k hk=>hk) vs h3
     have hfree:∀ b k,k∉ks->ow b=some k->afi ow ks b=none:=fun b k hk ob=>akf (fun k' hk' e=>by rw [ob] at e;cases e;exact hk hk')
     refine ⟨vs,h1,ade D ow μ st (frozen own raws),ks,hn,⟨r,hpre⟩,hsub,fun _ _ d=>Or.inl d,fun b o d=>?_,?_,?_⟩
     ·rcases ac6 d with d | ⟨k,k1,k2,k3⟩
      ·exact Or.inl d
      ·refine Or.inr ⟨k,k2,?_⟩
       rcases Nat.lt_or_ge k Γ.np with hlt | hge
       ·exact absurd (by rw [hpre];simp [hlt]) (hnot k k1)
       ·exact hge
     ·refine (hw.objs.sub hn hsub).more (fun _ _ d=>Or.inl d) (fun b o d=>?_)
      rcases ac6 d with d | ⟨k,k1,k2,k3⟩
      ·exact Or.inl d
      ·exact Or.inr ⟨hfree b k (hnot k k1) k2,(hw.owlt b k k2).1⟩
     ·refine ar8 (Emb.sub hn hsub) ?_ hr
      by_cases hone:vs.length=1
      ·obtain ⟨v,rfl⟩:=List.length_eq_one_iff.1 hone
       obtain ⟨s,rfl⟩:=List.length_eq_one_iff.1 (show vals.length=1 by omega)
       simpa [adf] using l2 0 s v rfl rfl
      ·have hlv:vals.length≠1:=by omega
       have hr:adf vals=.tup vals:=by
        match vals,hlv with
        | [],_=>rfl
        | [x],h2=>exact absurd rfl h2
        | x::y::r,_=>rfl
       rw [hr,dif_neg (by simpa using hone)]
       exact .tup (by simp;omega) (fun i s v hi hv=>l2 i s v hi (by simpa using hv))
    ·cases h
end
theorem ah3 {C:Cfg} (hC:aai C) {f:FuncId}{fn:Func}{c:Code} (hf:C.P.funcs[f]?=some fn) (hb:fn.body=some c) (hn:fn.ntmps=C.n) (hname:(fn.name== "runtime.NumGoroutine")=false) (hL:∀ body,body∈aau c->LoopOk C body)
 {R:Type}{as:List SV}{st:List BX}{K:List SV->List BX->Option R}{r:R}{rs0:List SV}{st0:List BX} (h:awr C fn as st K=some r) (has:as.length<=C.n) (hnp:st.length=C.np)
 (hK:∀ rs s,K rs s=some r->∀ (D:Dom) (w:World) (ow:Own) (μ:Nat->Nat) (v:Value) (D':Dom) (w':World),Post C.P D w ow μ st rs s v D' w'->Post C.P D w ow μ st rs0 st0 v D' w'/\agj rs0 v=agj rs v):Meets C.P f as st rs0 st0:=by
 refine ⟨alp hf hname (by rw [hb];rfl),fun D ow μ w vals pre=>?_⟩
 unfold awr at h
 rw [hb] at h
 simp only at h
 refine calls_of_wp hf hb ?_
 -- the activation
 let Γ:Ctx:={ P:=C.P,n:=C.n,B:=w.heap.size,w0:=w,D0:=D,ow0:=ow,np:=st.length,μ0:=μ,K0:=fun k=>match st[k]? with | some b=>b.kind | none=>[],L0:=fun k=>match st[k]? with | some (.arr _ _ xs)=>xs.length | _=>0,hB:=rfl,tabs:=pre.tabs }
 have hw:WRel Γ D ow μ st w:=by
  refine ⟨fun k T s e=>pre.objs.obj k _ e,fun k K E es e=>pre.objs.obj k _ e,fun k b e=>?_,pre.objs.owlt,pre.objs.dlt,rfl,rfl,rfl,Nat.le_refl _,fun _ _ _=>rfl,fun _ _ d=>d,fun _ _ d=>Or.inl d,fun _ _ h _=>h,Nat.le_refl _,fun _ _ _=>rfl,fun k hk=>?_,pre.objs.lone,Keeps.refl _ _,fun k hk E xs e=>⟨?_,ArrKeep.refl _ _ _ _ _⟩⟩
  ·have h0:=pre.objs.obj k b e
   cases b with
   | box T s=>trivial
   | map K E es=>trivial
   | acc g=>trivial
   | hole=>trivial
   | _=>exact h0
  ·have hb':st[k]?=some st[k]:=List.getElem?_eq_getElem hk
   exact ⟨st[k],hb',by show _=(match st[k]? with | some b=>b.kind | none=>[]);rw [hb']⟩
  ·show _=(match st[k]? with | some (.arr _ _ xs)=>xs.length | _=>0);rw [e]
 have hsl:Slots Γ D ow μ (an2 as) st { tmps:=vals++Array.replicate (fn.ntmps-vals.size) Go.undef,defers:=[] } w:=by
  refine ⟨by show (vals++_).size=C.n;have:=pre.size;simp;omega,rfl,fun t=>?_⟩
  unfold an2
  by_cases ht:t<as.length
  ·have h1:as[t]?=some as[t]:=List.getElem?_eq_getElem ht
   have ht':t<vals.size:=by rw [pre.size];exact ht
   have h2:vals[t]?=some vals[t]:=Array.getElem?_eq_getElem ht'
   have e1:as.getD t .undef=as[t]:=by simp [List.getD,h1]
   have e2:(vals++Array.replicate (fn.ntmps-vals.size) Go.undef).getD t Go.undef=vals[t]:=by
    have e:∀ (x:Array Value),x.getD t Go.undef=(x[t]?).getD Go.undef:=fun x=>by simp
    rw [e,Array.getElem?_append_left ht',h2];rfl
   show SlotRep _ _ _ _ _ _ _ (as.getD t .undef) ((vals++Array.replicate (fn.ntmps-vals.size) Go.undef).getD t Go.undef)
   rw [e1,e2]
   exact (pre.arg t _ _ h1 h2).slot
  ·have e1:as.getD t .undef=.undef:=by simp [List.getD,List.getElem?_eq_none (Nat.le_of_not_lt ht)]
   rw [e1];exact .undef
 have hng:NoGd (an2 as):=by
  intro t u want x he
  unfold an2 at he
  by_cases ht:t<as.length
  ·have h1:as[t]?=some as[t]:=List.getElem?_eq_getElem ht
   have ht':t<vals.size:=by rw [pre.size];exact ht
   have:=pre.arg t _ _ h1 (Array.getElem?_eq_getElem ht')
   have e1:as.getD t .undef=as[t]:=by simp [List.getD,h1]
   rw [e1] at he;rw [he] at this;cases this
  ·have e1:as.getD t .undef=.undef:=by simp [List.getD,List.getElem?_eq_none (Nat.le_of_not_lt ht)]
   rw [e1] at he;cases he
 -- what is handed back
 have out:∀ (rs:List SV) (s':List BX) (v:Value) (w':World) (D1 D':Dom) (ow':Own) (μ':Nat->Nat) (st':List BX) (ks r':List Nat),K rs s'=some r->WRel Γ D1 ow' μ' st' w'->ks.Nodup->ks=List.range st.length++r'->agb st' (ab8 ks) (ah4 st') ks=some s'->
  (∀ b o,D1 b o->D' b o)->(∀ b o,D' b o->D1 b o∨∃ k,ow' b=some k/\st.length<=k)->Objs C.P D' (afi ow' ks) (fun j=>μ' (ks.getD j 0)) s' w'->ahq C.P D' w' (afi ow' ks) (fun j=>μ' (ks.getD j 0)) s' rs v->
  Post C.P D w ow μ st rs0 st0 v D' w'/\agj rs0 v=agj rs v:=by
  intro rs s' v w' D1 D' ow' μ' st' ks r' hk hw' hn' hpre hsub hD hN hobjs hres
  have hrange:∀ k,k<st.length->ks[k]?=some k:=by
   intro k hk
   rw [hpre,List.getElem?_append_left (by simpa using hk)]
   simp [hk]
  obtain ⟨l1,l2⟩:=ahm ks s' hsub
  refine hK rs s' hk D w ow μ _ D' w' ⟨fun b o d=>hD b o (hw'.dom0 b o d),fun b o d=>?_,⟨afi ow' ks,fun j=>μ' (ks.getD j 0),hobjs,hres,fun b j hb hlt=>?_,fun k b hk'=>?_,fun k E g xs ys hk' hs'=>?_⟩,hw'.os,hw'.tape,hw'.output,hw'.hs,hw'.old,hw'.keep0⟩
  ·rcases hN b o d with d | ⟨k,k1,k2⟩
   ·exact hw'.domN b o d
   ·rcases Nat.lt_or_ge b w.heap.size with hlt | hge
    ·have h0:=hw'.owN b k k1 hlt
     have:=(pre.objs.owlt b k h0).2
     omega
    ·exact Or.inr (Or.inl hge)
  ·obtain ⟨k,hj,hob⟩:=ad6 hb
   have h0:=hw'.owN b k hob hlt
   have hklt:=(pre.objs.owlt b k h0).2
   have:=amh hn' hj (hrange k hklt)
   subst this
   exact h0
  ·have hklt:=(List.getElem?_eq_some_iff.1 hk').1
   obtain ⟨x,hx,p1⟩:=hw'.par k hklt
   obtain ⟨b1,b2,q1,q2,q3⟩:=l2 k k (hrange k hklt)
   rw [hx] at q1;cases q1
   have hK:Γ.K0 k=b.kind:=by show (match st[k]? with | some b=>b.kind | none=>[])=_;rw [hk']
   refine ⟨b2,q3,(acf q2).1.trans (p1.trans hK),fun _ harr=>?_⟩
   have e:ks.getD k 0=k:=by simp [List.getD,hrange k hklt]
   show μ' (ks.getD k 0)=μ k
   rw [e]
   refine hw'.mu0 k hklt (fun E hE=>?_)
   rw [hK] at hE
   obtain ⟨g,xs,rfl⟩:=ahc hE
   exact harr _ _ _ rfl
  ·have hklt:=(List.getElem?_eq_some_iff.1 hk').1
   obtain ⟨b1,b2,q1,q2,q3⟩:=l2 k k (hrange k hklt)
   rw [hs'] at q3;cases q3
   obtain ⟨g1,zs,rfl⟩:=ahc (acf q2).1.symm
   have q2':=(acf q2).2.2 _ _ _ rfl
   have hgam:ah4 st' k=(bif Nat.beq g1 0 then 0 else 1):=by unfold ah4;rw [q1]
   injection q2' with _ q4 q5
   subst q5
   have hg1:g1=0:=by
    rw [hgam] at q4
    cases hb:Nat.beq g1 0 with
    | true=>exact Nat.eq_of_beq_eq_true hb
    | false=>rw [hb] at q4;simp at q4
   subst hg1
   obtain ⟨r1,r2⟩:=hw'.arr0 k hklt E ys q1
   have hL:Γ.L0 k=xs.length:=by show (match st[k]? with | some (.arr _ _ xs)=>xs.length | _=>0)=_;rw [hk']
   refine ⟨r1.trans hL,fun cur hc ho=>?_⟩
   obtain ⟨t1,t2,cur',t3,t4⟩:=r2 cur hc ho
   have e:ks.getD k 0=k:=by simp [List.getD,hrange k hklt]
   refine ⟨?_,apx hn' (hrange k hklt) t2,cur',t3,t4⟩
   show μ' (ks.getD k 0)=μ k
   rw [e];exact t1
 -- the end
 have fin:∀ e' st' a' w',(match ao5 C.P C.own e' st' st.length fn.resultTypes.toList fn.results.toList with | some (rs,s')=>K rs s' | none=>none)=some r->Rel Γ e' st' a' w'->
  a'.defers=[]/\∃ v,(results fn a'.tmps).run C.P w'=.ok v w'/\∃ v_1 D',Ending.returned v=agj rs0 v_1/\Post C.P D w ow μ st rs0 st0 v_1 D' w':=by
  intro e' st' a' w' hk hrel
  obtain ⟨D1,ow',μ',hw',hs'⟩:=hrel
  split at hk
  ·rename_i rs s' hex
   obtain ⟨vs,h1,D',ks,hn',⟨r',hpre⟩,hsub,hD,hN,hobjs,hres⟩:=aws hw' hs' hex
   obtain ⟨hres,hend⟩:=ajk hres
   obtain ⟨hp,he⟩:=out rs s' _ w' D1 D' ow' μ' st' ks r' hk hw' hn' hpre hsub hD hN hobjs hres
   refine ⟨hs'.defers,if h:vs.toArray.size=1 then vs.toArray[0] else .tuple vs.toArray,?_,_,D',(he.trans hend).symm,hp⟩
   unfold results
   rw [Sem.run_bind,Array.mapM_eq_mapM_toList,Sem.run_map]
   exact congrArg (fun r:Result (List Value)=>(r.andThen fun a w'=>Result.ok a.toArray w').andThen fun a w'=>Sem.run C.P (pure (if h:a.size=1 then a[0] else Value.tuple a)) w') (h1:_=_)
  ·simp at hk
 have hex:=aj5 (Γ:=Γ) hC rfl rfl hnp r c hL _ (an2 as) st h (bodyPost C.P fn (fun e w'=>∃ v D',e=agj rs0 v/\Post C.P D w ow μ st rs0 st0 v D' w'))
  (fun e' st' a' w' hk _ hrel=>fin e' st' a' w' hk hrel) (fun i e' st' a' w' hk _ _=>by simp at hk) (fun e' st' a' w' hk _ hrel=>fin e' st' a' w' hk hrel) (fun s st' v a' w' hk hp=>?_) _ w ⟨D,ow,μ,hw,hsl⟩ hng
 ·exact hex
 -- a panic
 obtain ⟨hdef,D1,ow',μ',hw',hs'⟩:=hp
 refine ⟨hdef,?_⟩
 simp only at hk
 split at hk
 ·rename_i rs s' hex
  unfold ay5 at hex
  split at hex
  ·rename_i T x
   split at hex
   ·rename_i x' sub hc hsub
    simp only [Option.some.injEq,Prod.mk.injEq] at hex
    obtain ⟨rfl,rfl⟩:=hex
    have hn':=akm st' st.length []
    obtain ⟨r',hpre⟩:=ait st' st.length []
    have hres:ahq C.P D1 w' (afi ow' (ae5 st' st.length [])) (fun j=>μ' ((ae5 st' st.length []).getD j 0)) sub [.pan (.ifc T x')] v:=by
     cases hs' with
     | ifc hu=>exact .ifc (ab7 hu hc _ _ _)
    obtain ⟨hp,he⟩:=out _ _ v w' D1 D1 ow' μ' st' _ r' hk hw' hn' hpre hsub (fun _ _ d=>d) (fun _ _ d=>Or.inl d) (hw'.objs.sub hn' hsub) hres
    exact ⟨v,D1,he.symm,hp⟩
   ·cases hex
  ·cases hex
 ·cases hk
end Go.Ab
