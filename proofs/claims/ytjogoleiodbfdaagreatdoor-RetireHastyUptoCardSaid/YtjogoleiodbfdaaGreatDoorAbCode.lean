/- The evaluator is sound: code, functions. -/
import Derived.Test.YtjogoleiodbfdaaGreatDoorAbDraw
set_option linter.unusedVariables false
set_option linter.unusedSimpArgs false
set_option linter.unnecessarySimpa false
namespace Go.Ab
open Go
def NoGd (e:Env):Prop:=∀ t u h x,e t≠.gd u h x
theorem NoGd.inv {e:Env} (h:NoGd e) (l:List Oper):GInv e l:=λt u o x H=>absurd H (h t u o x)
theorem NoGd.sweep (e:Env):NoGd (sweep e):=by intro t u o x h;grind [Ab.sweep]
theorem NoGd.set {e:Env} (h:NoGd e) (t:Nat) {s:SV} (M:∀ u o x,s≠.gd u o x):NoGd (e.set t s):=by
 intro I u o x H;unfold Env.set at H;cases J:Nat.beq I t with
 | true=>grind
 | false=>rw [J] at H;exact h I u o x H
theorem Rel.less {Γ:Ctx}{e o:Env}{st:List BX}{a:Act}{w:World} (h:Rel Γ e st a w) (H:∀ t,o t=.undef\/o t=e t):Rel Γ o st a w:=by
 obtain ⟨D,ow,μ,J,I⟩:=h;refine ⟨D,ow,μ,J,I.size,I.defers,λt=>?_⟩;rcases H t with h | h
 ·rw [h];exact .undef
 ·rw [h];exact I.slot t
theorem Rel.sweep {Γ:Ctx}{e:Env}{st:List BX}{a:Act}{w:World} (h:Rel Γ e st a w):Rel Γ (sweep e) st a w:=
 h.less λt=>by grind [Ab.sweep]
theorem alj {Γ:Ctx}{R:Type}{C:Cfg} (hC:aak C) (hP:C.P=Γ.P) (hn:Γ.n=C.n) (ab:Γ.np=C.np) {ops:Array Oper}{r:R}{K:Env->List BX->Option R}{X:SV->List BX->Option R}{Q:Exit->Act->World->Prop}
 (hK:∀ O st' J w',K O st'=some r->Rel Γ O st' J w'->Q .normal J w') (hX:∀ s st' v J w',X s st'=some r->PRel Γ s st' v J w'->Q (.panic [{ v,recovered:=false }]) J w'):∀ (l:List Oper) (i:Nat),ops.toList.drop i=l->∀ (e:Env) (st:List BX),aio C ops l e st K X=some r->∀ (a:Act) (w:World),Rel Γ e st a w->GInv e l->wpOps Γ.P ops Q (List.range' i l.length) a w:=by
 intro l
 induction l with
 | nil=>intro i hl e st h a w H hg;exact hK _ _ _ _ h H
 | cons o I ih=>
  intro i hl e st h a w H hg
  have ho:ops[i]?=some o:=by
   have:(ops.toList.drop i)[0]?=some o:=by rw [hl];rfl
   simpa using this
  have aa:ops.toList.drop (i+1)=I:=by
   have:(ops.toList.drop i).drop 1=I:=by rw [hl];rfl
   rwa [Bp] at this
  simp only [Am,List.range'_succ]
  rw [wpOps_cons]
  unfold aio at h
  exact auz hC hP hn ab ho h H hg _ Q (λO st' J w' h' Z M=>ih (i+1) aa O st' h' J w' M Z) hX
def avj (Γ:Ctx) (x:LEx) (e:Env) (st:List BX) (Q:Exit->Act->World->Prop):Prop:=
 match x with
 | .exit i=>∀ a w,Rel Γ e st a w->Q (.exit i) a w
 | .ret=>∀ a w,Rel Γ e st a w->Q .ret a w
 | .pan=>∀ v a w,PRel Γ (e 0) st v a w->Q (.panic [{ v,recovered:=false }]) a w
def avk (C:Cfg) (h:Code) (m:Nat) (e:Env) (st:List BX) (x:LEx) (o:Env) (st':List BX):Prop:=
 ∀ (Γ:Ctx),Γ.P=C.P->Γ.n=C.n->Γ.np=C.np->∀ (Q:Exit->Act->World->Prop) (a:Act) (w:World),Rel Γ e st a w->NoGd e->avj Γ x o st' Q->Code.rounds C.P h Q m a w
def LoopOk (C:Cfg) (h:Code):Prop:=∀ (R:Type) (e:Env) (st:List BX) (K:LEx->Env->List BX->Option R) (r:R),C.lam R (ajl h) e st K=some r->
 ∃ m,∀ (Γ:Ctx),Γ.P=C.P->Γ.n=C.n->Γ.np=C.np->∀ (Q:Exit->Act->World->Prop) (a:Act) (w:World),Rel Γ e st a w->NoGd e->
  (∀ x o st',K x o st'=some r->NoGd o->avj Γ x o st' Q)->Code.rounds C.P h Q m a w
theorem LoopOk.one {C:Cfg}{o:Code} (h:∀ (R:Type) (e:Env) (st:List BX) (K:LEx->Env->List BX->Option R) (r:R),C.lam R (ajl o) e st K=some r->
 ∃ x H st' m,K x H st'=some r/\NoGd H/\avk C o m e st x H st'):LoopOk C o:=λR e st K r hr=>by
 obtain ⟨x,H,st',m,hk,hg,J⟩:=h R e st K r hr
 exact ⟨m,λ Γ M O Z Q a w I hn hQ=>J Γ M O Z Q a w I hn (hQ x H st' hk hg)⟩
def aaw:Code->List Code
 | .seq a b=>aaw a++aaw b
 | .cond _ a b=>aaw a++aaw b
 | .block _ c=>aaw c
 | .loop c=>[c]
 | _=>[]
theorem ake {Γ:Ctx}{R:Type}{C:Cfg} (hC:aak C) (hP:C.P=Γ.P) (hn:Γ.n=C.n) (aj:Γ.np=C.np) (r:R):∀ (c:Code),(∀ I,I∈aaw c->LoopOk C I)->∀ (K:Ks R) (e:Env) (st:List BX),exec C c K e st=some r->
 ∀ (Q:Exit->Act->World->Prop),(∀ M st' J w',K.norm M st'=some r->NoGd M->Rel Γ M st' J w'->Q .normal J w')->(∀ i M st' J w',K.exit i M st'=some r->NoGd M->Rel Γ M st' J w'->Q (.exit i) J w')->
  (∀ M st' J w',K.ret M st'=some r->NoGd M->Rel Γ M st' J w'->Q .ret J w')->(∀ s st' v J w',K.pan s st'=some r->PRel Γ s st' v J w'->Q (.panic [{ v,recovered:=false }]) J w')->∀ (a:Act) (w:World),Rel Γ e st a w->NoGd e->c.wp Γ.P Q a w:=by
 intro c
 induction c with
 | skip=>intro _ K e st h Q O h2 h3 h4 a w o Z;exact wp_skip (O _ _ _ _ h Z o)
 | region id ops af=>
  intro _ K e st h Q O h2 h3 h4 a w o Z
  unfold exec runR at h
  cases af with
  | false=>
   simp only [Ah] at h
   refine wp_region ?_
   have:=alj hC hP hn aj (ops:=ops) (Q:=Q) (λM st' J w' hk H=>O _ _ J w' hk (NoGd.sweep M) H.sweep) h4 ops.toList 0 (by simp) e st h a w o (Z.inv _)
   rwa [<-List.range_eq_range',Array.length_toList] at this
  | true=>
   simp only [Af] at h
   cases hd:arl C.P ops with
   | false=>rw [hd] at h;cases h
   | true=>
    rw [hd] at h
    simp only [Af] at h
    have hm:Γ.P.follows .mixedOrders=true:=by rw [hP] at hd;simp only [arl,Aj] at hd;exact hd.1.1
    have H:Rel Γ e st a { w with drawn:=w.drawn+1 }:=by obtain ⟨D,ow,μ,hw,hs⟩:=o;obtain ⟨O,h2⟩:=hw.drawn (w.drawn+1);exact ⟨D,ow,μ,O,hs.mono h2⟩
    exact wp_region_any hm (ayk hC hP hn (by rw [<-hP];exact hd) h Z (λM st' J w' hk H=>O _ _ J w' hk (NoGd.sweep M) H.sweep) h4 a _ H)
 | seq x y ab ad=>
  intro hL K e st h Q O h2 h3 h4 a w o Z
  unfold exec at h
  refine wp_seq (ab (λb hb=>hL b (by simp [aaw,hb])) _ e st h (Exit.then (y.wp Γ.P Q) Q) (λM st' J w' hk aa H=>?_) h2 h3 h4 a w o Z)
  exact ad (λb hb=>hL b (by simp [aaw,hb])) K M st' hk Q O h2 h3 h4 J w' H aa
 | cond c x y ab ad=>
  intro hL K e st h Q O h2 h3 h4 a w o Z
  unfold exec at h
  have ag:∀ I,I∈aaw x->LoopOk C I:=λb hb=>hL b (by simp [aaw,hb])
  have ah:∀ I,I∈aaw y->LoopOk C I:=λb hb=>hL b (by simp [aaw,hb])
  split at h
  ·rename_i t;split at h
   ·rename_i b hb;have ht:a.eval (.tmp t)=.bool b:=by
     obtain ⟨D,ow,μ,hw,hs⟩:=o;have:=hs.slot t;rw [hb] at this;show a.tmps.getD t Go.undef=_;generalize a.tmps.getD t Go.undef=v at this;cases this;rfl
    have ae:∀ b',b'=b->Rel Γ (e.set t (.bool b')) st a w:=by
     intro b' al;obtain ⟨D,ow,μ,hw,hs⟩:=o;refine ⟨D,ow,μ,hw,hs.size,hs.defers,λt'=>?_⟩;unfold Env.set;cases ak:Nat.beq t' t with
     | true=>have:=Ae ak;subst this;rw [al];have:=hs.slot t';rwa [hb] at this
     | false=>exact hs.slot t'
    cases b with
    | true=>exact wp_cond_true ht (ab ag K _ st h Q O h2 h3 h4 a w (ae true rfl) (Z.set t (by simp)))
    | false=>exact wp_cond_false ht (ad ah K _ st h Q O h2 h3 h4 a w (ae false rfl) (Z.set t (by simp)))
   ·simp at h
  ·rename_i b;cases b with
   | true=>exact wp_cond_true rfl (ab ag K e st h Q O h2 h3 h4 a w o Z)
   | false=>exact wp_cond_false rfl (ad ah K e st h Q O h2 h3 h4 a w o Z)
  ·simp at h
 | block id I ih=>
  intro hL K e st h Q O h2 h3 h4 a w o Z
  unfold exec at h
  refine wp_block (ih (λb hb=>hL b (by simpa [aaw] using hb)) _ e st h (Exit.inBlock id Q) O (λi M st' J w' hk aa H=>?_) h3 h4 a w o Z)
  show Exit.inBlock id Q (.exit i) J w'
  unfold Exit.inBlock
  by_cases hi:i=id
  ·subst hi;simp only [A9];simp only [Bi,Af] at hk;exact O _ _ _ _ hk aa H
  ·simp only [hi,A8];have hb:Nat.beq i id=false:=by
    cases hc:Nat.beq i id with
    | false=>rfl
    | true=>exact absurd (Ae hc) hi
   simp only [hb,Ah] at hk;exact h2 _ _ _ _ _ hk aa H
 | loop I _=>
  intro hL K e st h Q O h2 h3 h4 a w o Z
  unfold exec at h
  obtain ⟨m,ai⟩:=hL I (by simp [aaw]) R e st _ r h
  rw [hP] at ai
  refine wp_loop_rounds m (ai Γ rfl hn aj Q a w o Z (λx M st' hk aa=>?_))
  cases x with
  | exit i=>exact λJ w' H=>h2 i _ _ _ _ hk aa H
  | ret=>exact λJ w' H=>h3 _ _ _ _ hk aa H
  | pan=>exact λv J w' hp=>h4 _ _ v _ _ hk hp
 | exit id=>intro _ K e st h Q O h2 h3 h4 a w o Z;exact wp_exit (h2 _ _ _ _ _ h Z o)
 | ret=>intro _ K e st h Q O h2 h3 h4 a w o Z;exact wp_ret (h3 _ _ _ _ h Z o)
 | rangeFunc=>intro _ K e st h;simp [exec] at h
 | scope=>intro _ K e st h;simp [exec] at h
 | label=>intro _ K e st h;simp [exec] at h
 | goto=>intro _ K e st h;simp [exec] at h
 | refuse=>intro _ K e st h;simp [exec] at h
theorem ax6 {C:Cfg} (hC:aak C) {H:Code} (hL:∀ b,b∈aaw H->LoopOk C b) {R:Type}{r:R}{K:Ks R}{e:Env}{st:List BX} (h:exec C H K e st=some r) {x:LEx}{e':Env}{st':List BX}
 {m:Nat} (ae:∀ M o,K.norm M o=some r->NoGd M->avk C H m M o x e' st')
 (ad:∀ i M o,K.exit i M o=some r->NoGd M->x=.exit i/\∀ (Γ:Ctx) (a:Act) (w:World),Γ.P=C.P->Γ.np=C.np->Rel Γ M o a w->Rel Γ e' st' a w)
 (ah:∀ M o,K.ret M o=some r->NoGd M->x=.ret/\∀ (Γ:Ctx) (a:Act) (w:World),Γ.P=C.P->Γ.np=C.np->Rel Γ M o a w->Rel Γ e' st' a w)
 (af:∀ s o,K.pan s o=some r->x=.pan/\∀ (Γ:Ctx) (v:Value) (a:Act) (w:World),Γ.P=C.P->Γ.np=C.np->PRel Γ s o v a w->PRel Γ (e' 0) st' v a w):avk C H (m+1) e st x e' st':=by
 intro Γ O ab J Q a w ag hg hQ
 rw [rounds_succ]
 have hw:H.wp Γ.P (Exit.then (Code.rounds C.P H Q m) Q) a w:=by
  refine ake hC O.symm ab J r H hL K e st h (Exit.then (Code.rounds C.P H Q m) Q) (λM o a1 w1 hk Z I=>?_) (λi M o a1 w1 hk Z I=>?_) (λM o a1 w1 hk Z I=>?_) (λs o v a1 w1 hk hp=>?_) a w ag hg
  ·exact ae M o hk Z Γ O ab J Q a1 w1 I Z hQ
  ·obtain ⟨rfl,aa⟩:=ad i M o hk Z;exact hQ a1 w1 (aa Γ a1 w1 O J I)
  ·obtain ⟨rfl,aa⟩:=ah M o hk Z;exact hQ a1 w1 (aa Γ a1 w1 O J I)
  ·obtain ⟨rfl,aa⟩:=af s o hk;exact hQ v a1 w1 (aa Γ v a1 w1 O J hp)
 grind
end Go.Ab
namespace Go.Ab
open Go
section
variable {Γ:Ctx}{D:Dom}{ow:Own}{μ:Nat->Nat}{st:List BX}{w:World}
def owTo (ow:Own) (n:Nat):Own:=λb=>match ow b with | some k=>if k<n then some k else none | none=>none
theorem owTo_some {n b k:Nat}:owTo ow n b=some k ↔ ow b=some k/\k<n:=by unfold owTo;grind
theorem auy {own:Bool}{T:TypeId}{s s':SV}{v:Value}{fz:List Nat} (M:WRel Γ D ow μ st w) (h:SRep Γ.P D w ow μ st s v) (o:a9e Γ.P own st T s=some s') (J:∀ k,k∈frozen own [s]->k∈fz):SRep Γ.P (adp D ow μ st fz) w ow μ st s' v:=by
 have m:Moves D w ow μ st (adp D ow μ st fz) w ow μ st:=aht fz;unfold a9e at o;split at o
 ·rename_i k;split at o
  ·rename_i K E es H;simp only [Al] at o;subst o;cases h;obtain ⟨ents,clock,kc,vc,r1,r2,r3,r4,r5,r6,r7,_⟩:=M.map k K E es H;exact .map (.mk kc vc r1 (Or.inr ⟨k,_,J k (by simp [frozen]),H,Or.inl ⟨K,E,es,rfl⟩,r2,rfl⟩) r4 (λi x a=>(r5 i x a).mono m.dom m.keeps) (λi x a=>(r6 i x a).mono m.dom m.keeps) r7)
  ·simp at o
 ·rename_i k g E;cases own with
  | true=>simp only [Af,Al] at o;subst o;exact h.mono m
  | false=>
   simp only [Ah] at o;split at o
   ·rename_i xs I;simp only [Al] at o;subst o;exact az6 M h I (J k (by simp [frozen]))
   ·cases o
 ·simp at o
 ·simp only [Al] at o;subst o;exact h.mono m
 ·simp only [Al] at o;subst o;exact h.mono m
 ·rename_i T' fs;cases own with
  | true=>
   simp only [Af] at o;split at o
   ·rename_i x O;simp only [Al] at o;subst o;exact (acd (h.mono m) O) _ _ _
   ·simp only [Al] at o;subst o;exact h.mono m
  | false=>
   simp only [Ah] at o;have Z:=aki (fz:=fz) M h (λk H=>J k (by simp only [al9] at H;simp [frozen,H]));split at o
   ·rename_i x O;simp only [Al] at o;subst o;exact (acd Z O) _ _ _
   ·simp only [Al] at o;subst o;exact Z
 ·cases own with
  | true=>simp only [Af,Al] at o;subst o;exact h.mono m
  | false=>simp only [Ah] at o;exact (acd (h.mono m) o) _ _ _
 ·exact (acd (h.mono m) o) _ _ _
theorem aqm {own:Bool}{fz:List Nat} (hw:WRel Γ D ow μ st w):∀ (O:List TypeId) (H o:List SV),ai4 Γ.P own st O H=some o->(∀ k,k∈frozen own H->k∈fz)->∀ (J:List Value),(∀ (i:Nat) (s:SV) (v:Value),H[i]?=some s->J[i]?=some v->SRep Γ.P D w ow μ st s v)->
 o.length=H.length/\∀ (i:Nat) (s:SV) (v:Value),o[i]?=some s->J[i]?=some v->SRep Γ.P (adp D ow μ st fz) w ow μ st s v:=by
 intro O
 induction O with
 | nil=>
  intro H o h Z J I
  cases H with
  | nil=>simp [ai4] at h;grind
  | cons=>simp [ai4] at h
 | cons T O ih=>
  intro H o h Z J I
  cases H with
  | nil=>simp [ai4] at h
  | cons s H=>
   simp only [ai4] at h
   split at h
   ·rename_i x q hx hq;simp only [Al] at h;subst h;have aa:∀ k,k∈frozen own [s]->k∈fz:=λk hk=>Z k (by cases own<;>cases s<;>simp_all [frozen]);have ab:∀ k,k∈frozen own H->k∈fz:=λk hk=>Z k (by cases own<;>cases s<;>simp_all [frozen]);obtain ⟨h1,h2⟩:=ih H q hq ab J.tail (λi s v M hv=>I (i+1) s v (by simpa using M) (by simpa using hv));refine ⟨by simp [h1],λi y v M hv=>?_⟩;cases i with
    | zero=>simp at M;subst M;exact auy hw (I 0 s v (by simp) hv) hx aa
    | succ i=>grind
   ·cases h
theorem asi (hw:WRel Γ D ow μ st w) {e:Env}{a:Act} (hs:Slots Γ D ow μ e st a w):∀ (rs:List ResultVar) (J:List SV),ash Γ.P e st rs=some J->
 ∃ Z:List Value,(rs.mapM λr=>(match r with | .tmp t=>pure (a.tmps.getD t Go.undef) | .cell x t=>do loadVar t (<-asAddr (a.tmps.getD x Go.undef)):Sem Value)).run Γ.P w=.ok Z w/\Z.length=J.length/\
  ∀ (i:Nat) (s:SV) (v:Value),J[i]?=some s->Z[i]?=some v->SRep Γ.P D w ow μ st s v:=by
 intro rs
 induction rs with
 | nil=>intro J h;simp [ash] at h;simp_all
 | cons r rr ih=>
  intro J h
  unfold ash at h
  split at h
  ·rename_i x q I hq;simp only [Al] at h;subst h;obtain ⟨Z,h1,h2,h3⟩:=ih q hq;have O:∃ v,(match r with | .tmp t=>pure (a.tmps.getD t Go.undef) | .cell x t=>do loadVar t (<-asAddr (a.tmps.getD x Go.undef)):Sem Value).run Γ.P w=.ok v w/\SRep Γ.P D w ow μ st x v:=by
    unfold a7a at I;split at I
    ·rename_i t;refine ⟨a.tmps.getD t Go.undef,by simp,?_⟩;have H:=hs.slot t;split at I
     ·cases I
     ·rename_i af;simp only [Al] at I;subst I;cases he:e t with
      | gd u ab y=>all_goals grind
      | _=>rw [he] at H;exact H
    ·rename_i t T';split at I
     ·rename_i k aa he;cases hb:(Nat.beq T' aa&&(Γ.P.underlying T').isSome&&(aal Γ.P T'||Nat.beq (Γ.P.cellsOf T') 1)) with
      | false=>all_goals grind
      | true=>
       rw [hb] at I;simp only [Af] at I;simp only [Aj,Bd] at hb;have:=Ae hb.1.1;subst this;split at I
       ·rename_i TB s hk;simp only [Al] at I;subst I;have H:=hs.slot t;rw [he] at H;simp only [SlotRep] at H;generalize ae:a.tmps.getD t Go.undef=av at H;cases H with
        | @ref _ _ _ ad s' off M hp=>
         rw [hk] at M;cases M;simp only [ab3,Al,Prod.mk.injEq] at hp;obtain ⟨rfl,rfl⟩:=hp;obtain ⟨o,T2,q1,q2,q3,q4,q5⟩:=hw.box k _ s hk;refine ⟨pack Γ.P TB o,?_,q5⟩;have hl:=ad0 hb.1.2 w (μ k) 0 o (λj v hj=>by all_goals grind [World.cell?]) (λ_=>q2) (λha=>by
          have h1:Γ.P.cellsOf TB=1:=by all_goals grind [Nat.eq_of_beq_eq_true]
          rw [h1] at q2;match o,q2 with
          | [u],_=>all_goals grind)
         all_goals grind [asAddr,Sem.run_bind,Sem.run_pure,Result.andThen_ok]
       ·simp at I
     ·simp at I
   obtain ⟨v,ag,ah⟩:=O;refine ⟨v::Z,?_,by simp [h2],λi s u hi hu=>?_⟩;all_goals grind [Sem.run_bind,Result.andThen_ok,Sem.run_pure]
  ·simp at h
theorem Objs.more {P:Program}{D':Dom} (h:Objs P D ow μ st w) (hD:∀ b o,D b o->D' b o) (hN:∀ b o,D' b o->D b o\/(ow b=none/\b<w.heap.size)):Objs P D' ow μ st w:=by
 have H:∀ b k,ow b=some k->∀ o,D' b o->D b o:=λb k J o d=>(hN b o d).resolve_right (λhh=>by rw [J] at hh;cases hh.1);have m:Moves D w ow μ st D' w ow μ st:=⟨hD,Keeps.refl _ _,λk T s e=>⟨rfl,s,e⟩,λk K E es e=>⟨rfl,es,e⟩,λk b e _=>⟨rfl,b,e,rfl⟩,λk E g xs e=>⟨g,xs,e,Nat.le_refl _,λ_=>⟨rfl,ArrKeep.refl _ _ _ _ _⟩⟩,λk g e=>⟨g,e,Nat.le_refl _,λ_ b J=>⟨rfl,J,H b k J⟩⟩⟩;refine ⟨λk b hk=>?_,h.owlt,λb o d=>?_,λb k x J e hx o d=>h.lone b k x J e hx o (H b k J o d)⟩
 ·have M:=h.obj k b hk;cases b with
  | box T s=>obtain ⟨c,T',q1,O,Z,q4,q5⟩:=M;exact ⟨c,T',q1,O,Z,λo d=>q4 o (H _ k Z o d),q5.mono m⟩
  | map K E es=>obtain ⟨ents,clock,kc,vc,q1,O,Z⟩:=M;exact OMapRep.mono ⟨ents,clock,kc,vc,q1,O,Z⟩ m.dom m.keeps rfl rfl O (λo d=>Z.1 o (H _ k O o d))
  | acc g=>trivial
  | hole=>trivial
  | iter s p=>exact ObjRep.mono (P:=P) (b:=.iter s p) M m.dom m.keeps (λ_=>rfl) (λc I=>⟨rfl,I,H c k I⟩)
  | mit K E c es=>exact ObjRep.mono (P:=P) (b:=.mit K E c es) M m.dom m.keeps (λ_=>rfl) (λc I=>⟨rfl,I,H c k I⟩)
  | bld T bs=>exact ObjRep.mono (P:=P) (b:=.bld T bs) M m.dom m.keeps (λ_=>rfl) (λc I=>⟨rfl,I,H c k I⟩)
  | arr E g xs=>exact ObjRep.mono (P:=P) (b:=.arr E g xs) M m.dom m.keeps (λ_=>rfl) (λc I=>⟨rfl,I,H c k I⟩)
 ·rcases hN b o d with d | d
  ·exact h.dlt b o d
  ·exact d.2
theorem axg (hw:WRel Γ D ow μ st w) {e:Env}{a:Act} (hs:Slots Γ D ow μ e st a w) {ts:List TypeId}{rs:List ResultVar}{af:List SV}{sub:List BX}{own:Bool} (h:apr Γ.P own e st Γ.np ts rs=some (af,sub)):
 ∃ O:List Value,(rs.mapM λr=>(match r with | .tmp t=>pure (a.tmps.getD t Go.undef) | .cell x t=>do loadVar t (<-asAddr (a.tmps.getD x Go.undef)):Sem Value)).run Γ.P w=.ok O w/\
  ∃ (D':Dom) (ks:List Nat),ks.Nodup/\(∃ r,ks=List.range Γ.np++r)/\agx st (ace ks) (ait st) ks=some sub/\(∀ b o,D b o->D' b o)/\(∀ b o,D' b o->D b o\/∃ k,ow b=some k/\Γ.np<=k)/\
   Objs Γ.P D' (afw ow ks) (λj=>μ (ks.getD j 0)) sub w/\SRep Γ.P D' w (afw ow ks) (λj=>μ (ks.getD j 0)) sub (ac9 af) (if h:O.toArray.size=1 then O.toArray[0] else .tuple O.toArray):=by
 unfold apr at h
 split at h
 ·cases h
 ·rename_i I ae;split at h
  ·cases h
  ·rename_i H aa;obtain ⟨O,h1,h2,h3⟩:=asi hw hs rs I ae;cases ag:(frozen own I).all (λk=>!((afl st Γ.np H).any (Nat.beq k))) with
   | false=>grind
   | true=>
    rw [ag] at h;simp only [Af] at h;split at h
    ·rename_i ak ai hr J;simp only [Al,Prod.mk.injEq] at h;obtain ⟨rfl,rfl⟩:=h;have hn:=ak9 st Γ.np H;obtain ⟨r,ad⟩:=ajg st Γ.np H;generalize afl st Γ.np H=ks at*;have ab:∀ k,k∈frozen own I->k∉ks:=by
      grind [List.all_eq_true,Nat.beq,List.any_eq_true,Nat.beq_refl]
     obtain ⟨l1,l2⟩:=aqm (fz:=frozen own I) hw ts I H aa (λk hk=>hk) O h3;have Z:∀ b k,k∉ks->ow b=some k->afw ow ks b=none:=λb k hk ob=>aks (λk' aj e=>by grind);refine ⟨O,h1,adp D ow μ st (frozen own I),ks,hn,⟨r,ad⟩,J,λ_ _ d=>Or.inl d,λb o d=>?_,?_,?_⟩
     ·grind [adg,Nat.lt_or_ge,absurd]
     ·refine (hw.objs.sub hn J).more (λ_ _ d=>Or.inl d) (λb o d=>?_);rcases adg d with d | ⟨k,k1,k2,k3⟩
      ·exact Or.inl d
      ·exact Or.inr ⟨Z b k (ab k k1) k2,(hw.owlt b k k2).1⟩
     ·refine asm (Emb.sub hn J) ?_ hr;by_cases M:O.length=1
      ·obtain ⟨v,rfl⟩:=List.length_eq_one_iff.1 M;obtain ⟨s,rfl⟩:=List.length_eq_one_iff.1 (show H.length=1 by omega);simpa [ac9] using l2 0 s v rfl rfl
      ·have ah:H.length≠1:=by omega
       have hr:ac9 H=.tup H:=by
        match H,ah with
        | [],_=>rfl
        | [x],h2=>grind
        | x::y::r,_=>rfl
       rw [hr,dif_neg (by simpa using M)];exact .tup (by simp;omega) (λi s v hi hv=>l2 i s v hi (by simpa using hv))
    ·cases h
end
theorem ais {C:Cfg} (hC:aak C) {f:FuncId}{fn:Func}{c:Code} (hf:C.P.funcs[f]?=some fn) (hb:fn.body=some c) (hn:fn.ntmps=C.n) (ap:(fn.name== "runtime.NumGoroutine")=false) (hL:∀ am,am∈aaw c->LoopOk C am)
 {R:Type}{as:List SV}{st:List BX}{K:List SV->List BX->Option R}{r:R}{ae:List SV}{al:List BX} (h:axf C fn as st K=some r) (aI:as.length<=C.n) (aA:st.length=C.np)
 (hK:∀ rs s,K rs s=some r->∀ (D:Dom) (w:World) (ow:Own) (μ:Nat->Nat) (v:Value) (D':Dom) (w':World),Post C.P D w ow μ st rs s v D' w'->Post C.P D w ow μ st ae al v D' w'/\ag4 ae v=ag4 rs v):Meets C.P f as st ae al:=by
 refine ⟨abf hf ap (by rw [hb];rfl),λD ow μ w I J=>?_⟩
 unfold axf at h
 rw [hb] at h
 simp only at h
 refine calls_of_wp hf hb ?_
 let Γ:Ctx:={ P:=C.P,n:=C.n,B:=w.heap.size,w0:=w,D0:=D,ow0:=ow,np:=st.length,μ0:=μ,K0:=λk=>match st[k]? with | some b=>b.kind | none=>[],L0:=λk=>match st[k]? with | some (.arr _ _ xs)=>xs.length | _=>0,hB:=rfl,tabs:=J.tabs }
 have hw:WRel Γ D ow μ st w:=by
  refine ⟨λk T s e=>J.objs.obj k _ e,λk K E es e=>J.objs.obj k _ e,λk b e=>?_,J.objs.owlt,J.objs.dlt,rfl,rfl,rfl,Nat.le_refl _,λ_ _ _=>rfl,λ_ _ d=>d,λ_ _ d=>Or.inl d,λ_ _ h _=>h,Nat.le_refl _,λ_ _ _=>rfl,λk hk=>?_,J.objs.lone,Keeps.refl _ _,λk hk E xs e=>⟨?_,ArrKeep.refl _ _ _ _ _⟩⟩
  ·have h0:=J.objs.obj k b e;cases b with
   | box T s=>trivial
   | map K E es=>trivial
   | acc g=>trivial
   | hole=>trivial
   | _=>exact h0
  ·have aJ:st[k]?=some st[k]:=As hk;grind
  grind
 have aC:Slots Γ D ow μ (aoj as) st { tmps:=I++Array.replicate (fn.ntmps-I.size) Go.undef,defers:=[] } w:=by
  refine ⟨by show (I++_).size=C.n;have:=J.size;simp;omega,rfl,λt=>?_⟩;unfold aoj;by_cases ht:t<as.length
  ·have h1:as[t]?=some as[t]:=As ht;have aq:t<I.size:=by rw [J.size];exact ht
   have h2:I[t]?=some I[t]:=Array.getElem?_eq_getElem aq;have e1:as.getD t .undef=as[t]:=by grind
   have e2:(I++Array.replicate (fn.ntmps-I.size) Go.undef).getD t Go.undef=I[t]:=by
    have e:∀ (x:Array Value),x.getD t Go.undef=(x[t]?).getD Go.undef:=λx=>by simp
    grind
   show SlotRep _ _ _ _ _ _ _ (as.getD t .undef) ((I++Array.replicate (fn.ntmps-I.size) Go.undef).getD t Go.undef);rw [e1,e2];exact (J.arg t _ _ h1 h2).slot
  ·have e1:as.getD t .undef=.undef:=by grind
   rw [e1];exact .undef
 have az:NoGd (aoj as):=by
  intro t u aH x he;unfold aoj at he;by_cases ht:t<as.length
  ·have h1:as[t]?=some as[t]:=As ht;have aq:t<I.size:=by rw [J.size];exact ht
   have:=J.arg t _ _ h1 (Array.getElem?_eq_getElem aq);have e1:as.getD t .undef=as[t]:=by grind
   rw [e1] at he;rw [he] at this;cases this
  grind
 have av:∀ (rs:List SV) (s':List BX) (v:Value) (w':World) (D1 D':Dom) (aa:Own) (ab:Nat->Nat) (st':List BX) (ks r':List Nat),K rs s'=some r->WRel Γ D1 aa ab st' w'->ks.Nodup->ks=List.range st.length++r'->agx st' (ace ks) (ait st') ks=some s'->
  (∀ b o,D1 b o->D' b o)->(∀ b o,D' b o->D1 b o\/∃ k,aa b=some k/\st.length<=k)->Objs C.P D' (afw aa ks) (λj=>ab (ks.getD j 0)) s' w'->agz C.P D' w' (afw aa ks) (λj=>ab (ks.getD j 0)) s' rs v->
  Post C.P D w ow μ st ae al v D' w'/\ag4 ae v=ag4 rs v:=by
  intro rs s' v w' D1 D' aa ab st' ks r' hk H ak ah ad hD hN ag Z
  have ai:∀ k,k<st.length->ks[k]?=some k:=by grind
  obtain ⟨l1,l2⟩:=aic ks s' ad
  refine hK rs s' hk D w ow μ _ D' w' ⟨λb o d=>hD b o (H.dom0 b o d),λb o d=>?_,⟨afw aa ks,λj=>ab (ks.getD j 0),ag,Z,λb j hb ao=>?_,λk b an=>?_,λk E g xs ys an aj=>?_⟩,H.os,H.tape,H.output,H.hs,H.old,H.keep0⟩
  ·rcases hN b o d with d | ⟨k,k1,k2⟩
   ·exact H.domN b o d
   ·rcases Nat.lt_or_ge b w.heap.size with ao | aK
    ·have h0:=H.owN b k k1 ao;grind
    grind
  ·obtain ⟨k,hj,aB⟩:=aej hb;have h0:=H.owN b k aB ao;have O:=(J.objs.owlt b k h0).2;grind [am6]
  ·have O:=(Bg.1 an).1;obtain ⟨x,hx,p1⟩:=H.par k O;obtain ⟨b1,b2,q1,q2,q3⟩:=l2 k k (ai k O);rw [hx] at q1;cases q1;have hK:Γ.K0 k=b.kind:=by grind
   refine ⟨b2,q3,(acm q2).1.trans (p1.trans hK),λ_ aF=>?_⟩;have e:ks.getD k 0=k:=by grind
   show ab (ks.getD k 0)=μ k;rw [e];refine H.mu0 k O (λE hE=>?_);rw [hK] at hE;obtain ⟨g,xs,rfl⟩:=ah2 hE;grind
  ·have O:=(Bg.1 an).1;obtain ⟨b1,b2,q1,q2,q3⟩:=l2 k k (ai k O);rw [aj] at q3;cases q3;obtain ⟨g1,zs,rfl⟩:=ah2 (acm q2).1.symm;have aD:=(acm q2).2.2 _ _ _ rfl;have aG:ait st' k=(bif Nat.beq g1 0 then 0 else 1):=by grind [ait]
   injection aD with _ q4 q5;subst q5;have ay:g1=0:=by grind [Nat.beq,Nat.eq_of_beq_eq_true]
   subst ay;obtain ⟨r1,r2⟩:=H.arr0 k O E ys q1;have hL:Γ.L0 k=xs.length:=by grind
   refine ⟨r1.trans hL,λax hc ho=>?_⟩;obtain ⟨t1,t2,aE,t3,t4⟩:=r2 ax hc ho;grind [List.getD,aqe]
 have fin:∀ e' st' a' w',(match apr C.P C.own e' st' st.length fn.resultTypes.toList fn.results.toList with | some (rs,s')=>K rs s' | none=>none)=some r->Rel Γ e' st' a' w'->
  a'.defers=[]/\∃ v,(results fn a'.tmps).run C.P w'=.ok v w'/\∃ aw D',Ending.returned v=ag4 ae aw/\Post C.P D w ow μ st ae al aw D' w':=by
  intro e' st' a' w' hk af
  obtain ⟨D1,aa,ab,H,aj⟩:=af
  split at hk
  ·rename_i rs s' M;obtain ⟨vs,h1,D',ks,ak,⟨r',ah⟩,ad,hD,hN,ag,Z⟩:=axg H aj M;obtain ⟨Z,au⟩:=af4 Z;obtain ⟨hp,he⟩:=av rs s' _ w' D1 D' aa ab st' ks r' hk H ak ah ad hD hN ag Z;refine ⟨aj.defers,if h:vs.toArray.size=1 then vs.toArray[0] else .tuple vs.toArray,?_,_,D',(he.trans au).symm,hp⟩;unfold results;rw [Sem.run_bind,Array.mapM_eq_mapM_toList,Sem.run_map];exact congrArg (λr:Result (List Value)=>(r.andThen λa w'=>Result.ok a.toArray w').andThen λa w'=>Sem.run C.P (pure (if h:a.size=1 then a[0] else Value.tuple a)) w') (h1:_=_)
  ·simp at hk
 have M:=ake (Γ:=Γ) hC rfl rfl aA r c hL _ (aoj as) st h (bodyPost C.P fn (λe w'=>∃ v D',e=ag4 ae v/\Post C.P D w ow μ st ae al v D' w'))
  (λe' st' a' w' hk _ af=>fin e' st' a' w' hk af) (λi e' st' a' w' hk _ _=>by simp at hk) (λe' st' a' w' hk _ af=>fin e' st' a' w' hk af) (λs st' v a' w' hk hp=>?_) _ w ⟨D,ow,μ,hw,aC⟩ az
 ·exact M
 obtain ⟨ar,D1,aa,ab,H,aj⟩:=hp
 refine ⟨ar,?_⟩
 simp only at hk
 split at hk
 ·rename_i rs s' M;unfold azx at M;split at M
  ·rename_i T x;split at M
   ·rename_i x' sub hc ad;simp only [Al,Prod.mk.injEq] at M;obtain ⟨rfl,rfl⟩:=M;have ak:=ak9 st' st.length [];obtain ⟨r',ah⟩:=ajg st' st.length [];have Z:agz C.P D1 w' (afw aa (afl st' st.length [])) (λj=>ab ((afl st' st.length []).getD j 0)) sub [.pan (.ifc T x')] v:=by
     cases aj with
     | ifc hu=>exact .ifc (acd hu hc _ _ _)
    obtain ⟨hp,he⟩:=av _ _ v w' D1 D1 aa ab st' _ r' hk H ak ah ad (λ_ _ d=>d) (λ_ _ d=>Or.inl d) (H.objs.sub ak ad) Z;exact ⟨v,D1,he.symm,hp⟩
   ·cases M
  ·cases M
 ·cases hk
end Go.Ab
