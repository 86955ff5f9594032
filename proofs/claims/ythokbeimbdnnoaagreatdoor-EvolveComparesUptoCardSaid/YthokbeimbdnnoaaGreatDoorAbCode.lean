/- The evaluator is sound: code, functions. -/
import Derived.Test.YthokbeimbdnnoaaGreatDoorAbDraw
set_option linter.unusedVariables false
set_option linter.unusedSimpArgs false
set_option linter.unnecessarySimpa false
namespace Go.Ab
open Go
def NoGd (e:Env):Prop:=∀ t u h x,e t≠.gd u h x
theorem NoGd.inv {e:Env} (h:NoGd e) (l:List Oper):GInv e l:=λt u o x z=>absurd z (h t u o x)
theorem NoGd.sweep (e:Env):NoGd (sweep e):=by
 intro t u o x h;unfold Ab.sweep at h;split at h
 ·cases h
 ·rename_i v z;exact z u o x h
theorem NoGd.set {e:Env} (h:NoGd e) (t:Nat) {s:SV} (J:∀ u o x,s≠.gd u o x):NoGd (e.set t s):=by
 intro I u o x z;unfold Env.set at z;cases H:Nat.beq I t with
 | true=>rw [H] at z;exact J u o x z
 | false=>rw [H] at z;exact h I u o x z
theorem Rel.less {Γ:Ctx}{e o:Env}{st:List BX}{a:Act}{w:World} (h:Rel Γ e st a w) (z:∀ t,o t=.undef\/o t=e t):Rel Γ o st a w:=by
 obtain ⟨D,ow,μ,I,H⟩:=h;refine ⟨D,ow,μ,I,H.size,H.defers,λt=>?_⟩;rcases z t with h | h
 ·rw [h];exact .undef
 ·rw [h];exact H.slot t
theorem Rel.sweep {Γ:Ctx}{e:Env}{st:List BX}{a:Act}{w:World} (h:Rel Γ e st a w):Rel Γ (sweep e) st a w:=
 h.less λt=>by unfold Ab.sweep;split<;>simp
theorem arc {Γ:Ctx}{R:Type}{C:Cfg} (hC:aam C) (hP:C.P=Γ.P) (hn:Γ.n=C.n) {ops:Array Oper}{r:R}{K:Env->List BX->Option R}{X:SV->List BX->Option R}{Q:Exit->Act->World->Prop}
 (hK:∀ M st' I w',K M st'=some r->Rel Γ M st' I w'->Q .normal I w') (hX:∀ s st' v I w',X s st'=some r->PRel Γ s st' v I w'->Q (.panic [{ v,recovered:=false }]) I w'):∀ (l:List Oper) (i:Nat),ops.toList.drop i=l->∀ (e:Env) (st:List BX),auz C ops l e st K X=some r->∀ (a:Act) (w:World),Rel Γ e st a w->GInv e l->wpOps Γ.P ops Q (List.range' i l.length) a w:=by
 intro l
 induction l with
 | nil=>intro i Z e st h a w z hg;exact hK _ _ _ _ h z
 | cons o H ih=>
  intro i Z e st h a w z hg
  have ho:ops[i]?=some o:=by
   have:(ops.toList.drop i)[0]?=some o:=by rw [Z];rfl
   simpa using this
  have aa:ops.toList.drop (i+1)=H:=by
   have:(ops.toList.drop i).drop 1=H:=by rw [Z];rfl
   rwa [Bo] at this
  simp only [Am,List.range'_succ]
  rw [wpOps_cons]
  unfold auz at h
  exact ath hC hP hn ho h z hg _ Q (λM st' I w' h' O J=>ih (i+1) aa M st' h' I w' J O) hX
def a3r (Γ:Ctx) (x:LEx) (e:Env) (st:List BX) (Q:Exit->Act->World->Prop):Prop:=
 match x with
 | .exit i=>∀ a w,Rel Γ e st a w->Q (.exit i) a w
 | .ret=>∀ a w,Rel Γ e st a w->Q .ret a w
 | .pan=>∀ v a w,PRel Γ (e 0) st v a w->Q (.panic [{ v,recovered:=false }]) a w
def at0 (C:Cfg) (h:Code) (m:Nat) (e:Env) (st:List BX) (x:LEx) (o:Env) (st':List BX):Prop:=
 ∀ (Γ:Ctx),Γ.P=C.P->Γ.n=C.n->Γ.np=C.np->∀ (Q:Exit->Act->World->Prop) (a:Act) (w:World),Rel Γ e st a w->NoGd e->a3r Γ x o st' Q->Code.rounds C.P h Q m a w
def LoopOk (C:Cfg) (h:Code):Prop:=∀ (R:Type) (e:Env) (st:List BX) (K:LEx->Env->List BX->Option R) (r:R),C.lam R (ajs h) e st K=some r->
 ∃ m,∀ (Γ:Ctx),Γ.P=C.P->Γ.n=C.n->Γ.np=C.np->∀ (Q:Exit->Act->World->Prop) (a:Act) (w:World),Rel Γ e st a w->NoGd e->
  (∀ x o st',K x o st'=some r->NoGd o->a3r Γ x o st' Q)->Code.rounds C.P h Q m a w
theorem LoopOk.one {C:Cfg}{o:Code} (h:∀ (R:Type) (e:Env) (st:List BX) (K:LEx->Env->List BX->Option R) (r:R),C.lam R (ajs o) e st K=some r->
 ∃ x z st' m,K x z st'=some r/\NoGd z/\at0 C o m e st x z st'):LoopOk C o:=λR e st K r hr=>by
 obtain ⟨x,z,st',m,hk,hg,I⟩:=h R e st K r hr
 exact ⟨m,λ Γ J M O Q a w H hn Z=>I Γ J M O Q a w H hn (Z x z st' hk hg)⟩
def aay:Code->List Code
 | .seq a b=>aay a++aay b
 | .cond _ a b=>aay a++aay b
 | .block _ c=>aay c
 | .loop c=>[c]
 | _=>[]
theorem ano {Γ:Ctx}{R:Type}{C:Cfg} (hC:aam C) (hP:C.P=Γ.P) (hn:Γ.n=C.n) (al:Γ.np=C.np) (r:R):∀ (c:Code),(∀ H,H∈aay c->LoopOk C H)->∀ (K:Ks R) (e:Env) (st:List BX),exec C c K e st=some r->
 ∀ (Q:Exit->Act->World->Prop),(∀ J st' I w',K.norm J st'=some r->NoGd J->Rel Γ J st' I w'->Q .normal I w')->(∀ i J st' I w',K.exit i J st'=some r->NoGd J->Rel Γ J st' I w'->Q (.exit i) I w')->
  (∀ J st' I w',K.ret J st'=some r->NoGd J->Rel Γ J st' I w'->Q .ret I w')->(∀ s st' v I w',K.pan s st'=some r->PRel Γ s st' v I w'->Q (.panic [{ v,recovered:=false }]) I w')->∀ (a:Act) (w:World),Rel Γ e st a w->NoGd e->c.wp Γ.P Q a w:=by
 intro c
 induction c with
 | skip=>intro _ K e st h Q M Z h3 h4 a w o O;exact wp_skip (M _ _ _ _ h O o)
 | region id ops af=>
  intro _ K e st h Q M Z h3 h4 a w o O
  unfold exec runR at h
  cases af with
  | false=>
   simp only [Ah] at h
   refine wp_region ?_
   have:=arc hC hP hn (ops:=ops) (Q:=Q) (λJ st' I w' hk z=>M _ _ I w' hk (NoGd.sweep J) z.sweep) h4 ops.toList 0 (by simp) e st h a w o (O.inv _)
   rwa [<-List.range_eq_range',Array.length_toList] at this
  | true=>
   simp only [Af] at h
   cases hd:aqh C.P ops with
   | false=>rw [hd] at h;cases h
   | true=>
    rw [hd] at h
    simp only [Af] at h
    have hm:Γ.P.follows .mixedOrders=true:=by rw [hP] at hd;simp only [aqh,Ai] at hd;exact hd.1.1
    have z:Rel Γ e st a { w with drawn:=w.drawn+1 }:=by obtain ⟨D,ow,μ,hw,hs⟩:=o;obtain ⟨M,Z⟩:=hw.drawn (w.drawn+1);exact ⟨D,ow,μ,M,hs.mono Z⟩
    exact wp_region_any hm (awm hC hP hn (by rw [<-hP];exact hd) h O (λJ st' I w' hk z=>M _ _ I w' hk (NoGd.sweep J) z.sweep) h4 a _ z)
 | seq x y ab ad=>
  intro hL K e st h Q M Z h3 h4 a w o O
  unfold exec at h
  refine wp_seq (ab (λb hb=>hL b (by simp [aay,hb])) _ e st h (Exit.then (y.wp Γ.P Q) Q) (λJ st' I w' hk aa z=>?_) Z h3 h4 a w o O)
  exact ad (λb hb=>hL b (by simp [aay,hb])) K J st' hk Q M Z h3 h4 I w' z aa
 | cond c x y ab ad=>
  intro hL K e st h Q M Z h3 h4 a w o O
  unfold exec at h
  have ag:∀ H,H∈aay x->LoopOk C H:=λb hb=>hL b (by simp [aay,hb])
  have ah:∀ H,H∈aay y->LoopOk C H:=λb hb=>hL b (by simp [aay,hb])
  split at h
  ·rename_i t;split at h
   ·rename_i b hb;have ht:a.eval (.tmp t)=.bool b:=by
     obtain ⟨D,ow,μ,hw,hs⟩:=o;have:=hs.slot t;rw [hb] at this;show a.tmps.getD t Go.undef=_;generalize a.tmps.getD t Go.undef=v at this;cases this;rfl
    have ae:∀ b',b'=b->Rel Γ (e.set t (.bool b')) st a w:=by
     intro b' ak;obtain ⟨D,ow,μ,hw,hs⟩:=o;refine ⟨D,ow,μ,hw,hs.size,hs.defers,λt'=>?_⟩;unfold Env.set;cases aj:Nat.beq t' t with
     | true=>have:=Aa aj;subst this;rw [ak];have:=hs.slot t';rwa [hb] at this
     | false=>exact hs.slot t'
    cases b with
    | true=>exact wp_cond_true ht (ab ag K _ st h Q M Z h3 h4 a w (ae true rfl) (O.set t (by simp)))
    | false=>exact wp_cond_false ht (ad ah K _ st h Q M Z h3 h4 a w (ae false rfl) (O.set t (by simp)))
   ·simp at h
  ·rename_i b;cases b with
   | true=>exact wp_cond_true rfl (ab ag K e st h Q M Z h3 h4 a w o O)
   | false=>exact wp_cond_false rfl (ad ah K e st h Q M Z h3 h4 a w o O)
  ·simp at h
 | block id H ih=>
  intro hL K e st h Q M Z h3 h4 a w o O
  unfold exec at h
  refine wp_block (ih (λb hb=>hL b (by simpa [aay] using hb)) _ e st h (Exit.inBlock id Q) M (λi J st' I w' hk aa z=>?_) h3 h4 a w o O)
  show Exit.inBlock id Q (.exit i) I w'
  unfold Exit.inBlock
  by_cases hi:i=id
  ·subst hi;simp only [Ba];simp only [Bi,Af] at hk;exact M _ _ _ _ hk aa z
  ·simp only [hi,A8];have hb:Nat.beq i id=false:=by
    cases hc:Nat.beq i id with
    | false=>rfl
    | true=>exact absurd (Aa hc) hi
   simp only [hb,Ah] at hk;exact Z _ _ _ _ _ hk aa z
 | loop H _=>
  intro hL K e st h Q M Z h3 h4 a w o O
  unfold exec at h
  obtain ⟨m,ai⟩:=hL H (by simp [aay]) R e st _ r h
  rw [hP] at ai
  refine wp_loop_rounds m (ai Γ rfl hn al Q a w o O (λx J st' hk aa=>?_))
  cases x with
  | exit i=>exact λI w' z=>Z i _ _ _ _ hk aa z
  | ret=>exact λI w' z=>h3 _ _ _ _ hk aa z
  | pan=>exact λv I w' hp=>h4 _ _ v _ _ hk hp
 | exit id=>intro _ K e st h Q M Z h3 h4 a w o O;exact wp_exit (Z _ _ _ _ _ h O o)
 | ret=>intro _ K e st h Q M Z h3 h4 a w o O;exact wp_ret (h3 _ _ _ _ h O o)
 | rangeFunc=>intro _ K e st h;simp [exec] at h
 | scope=>intro _ K e st h;simp [exec] at h
 | label=>intro _ K e st h;simp [exec] at h
 | goto=>intro _ K e st h;simp [exec] at h
 | refuse=>intro _ K e st h;simp [exec] at h
theorem awa {C:Cfg} (hC:aam C) {z:Code} (hL:∀ b,b∈aay z->LoopOk C b) {R:Type}{r:R}{K:Ks R}{e:Env}{st:List BX} (h:exec C z K e st=some r) {x:LEx}{e':Env}{st':List BX}
 {m:Nat} (ad:∀ M o,K.norm M o=some r->NoGd M->at0 C z m M o x e' st')
 (ab:∀ i M o,K.exit i M o=some r->NoGd M->x=.exit i/\∀ (Γ:Ctx) (a:Act) (w:World),Γ.P=C.P->Γ.np=C.np->Rel Γ M o a w->Rel Γ e' st' a w)
 (ag:∀ M o,K.ret M o=some r->NoGd M->x=.ret/\∀ (Γ:Ctx) (a:Act) (w:World),Γ.P=C.P->Γ.np=C.np->Rel Γ M o a w->Rel Γ e' st' a w)
 (ae:∀ s o,K.pan s o=some r->x=.pan/\∀ (Γ:Ctx) (v:Value) (a:Act) (w:World),Γ.P=C.P->Γ.np=C.np->PRel Γ s o v a w->PRel Γ (e' 0) st' v a w):at0 C z (m+1) e st x e' st':=by
 intro Γ J aa I Q a w af hg hQ
 rw [rounds_succ]
 have hw:z.wp Γ.P (Exit.then (Code.rounds C.P z Q m) Q) a w:=by
  refine ano hC J.symm aa I r z hL K e st h (Exit.then (Code.rounds C.P z Q m) Q) (λM o a1 w1 hk O H=>?_) (λi M o a1 w1 hk O H=>?_) (λM o a1 w1 hk O H=>?_) (λs o v a1 w1 hk hp=>?_) a w af hg
  ·exact ad M o hk O Γ J aa I Q a1 w1 H O hQ
  ·obtain ⟨rfl,Z⟩:=ab i M o hk O;exact hQ a1 w1 (Z Γ a1 w1 J I H)
  ·obtain ⟨rfl,Z⟩:=ag M o hk O;exact hQ a1 w1 (Z Γ a1 w1 J I H)
  ·obtain ⟨rfl,Z⟩:=ae s o hk;exact hQ v a1 w1 (Z Γ v a1 w1 J I hp)
 rw [J] at hw
 exact hw
end Go.Ab
namespace Go.Ab
open Go
section
variable {Γ:Ctx}{D:Dom}{ow:Own}{μ:Nat->Nat}{st:List BX}{w:World}
def owTo (ow:Own) (n:Nat):Own:=λb=>match ow b with | some k=>if k<n then some k else none | none=>none
theorem owTo_some {n b k:Nat}:owTo ow n b=some k ↔ ow b=some k/\k<n:=by
 unfold owTo;cases h:ow b with
 | none=>simp
 | some j=>
  by_cases o:j<n
  ·simp only [o,Ba,Al];exact ⟨λe=>by subst e;exact ⟨rfl,o⟩,λe=>e.1⟩
  ·simp only [o,A8,Al];exact ⟨λe=>by simp at e,λe=>by have:=e.1;have:=e.2;omega⟩
def ahc (D:Dom) (ow:Own) (μ:Nat->Nat) (st:List BX) (fz:List Nat):Dom:=λb o=>D b o\/∃ k h,k∈fz/\st[k]?=some h/\((∃ K E es,h=.map K E es)\/∃ E g xs,h=.arr E g xs)/\ow b=some k/\μ k=b
theorem aj9 {fz:List Nat}{b o:Nat} (h:ahc D ow μ st fz b o):D b o\/∃ k,k∈fz/\ow b=some k/\∀ g,st[k]?≠some (.acc g):=by
 rcases h with h | ⟨k,M,z,H,I,J,O⟩
 ·exact Or.inl h
 ·refine Or.inr ⟨k,z,J,λg e=>?_⟩;rw [H] at e;cases e;rcases I with ⟨K,E,es,h⟩ | ⟨E,g,xs,h⟩<;>cases h
theorem ahd (fz:List Nat):Moves D w ow μ st (ahc D ow μ st fz) w ow μ st:=by
 refine ⟨λ_ _ d=>Or.inl d,Keeps.refl _ _,λk T s e=>⟨rfl,s,e⟩,λk K E es e=>⟨rfl,es,e⟩,λk b e _=>⟨rfl,b,e,rfl⟩,λk E g xs e=>⟨g,xs,e,Nat.le_refl _,λ_=>⟨rfl,ArrKeep.refl _ _ _ _ _⟩⟩,λk g e=>⟨g,e,Nat.le_refl _,λ_ b z=>⟨rfl,z,λo d=>?_⟩⟩⟩;rcases aj9 d with d | ⟨J,I,h,H⟩
 ·exact d
 ·rw [z] at h;cases h;exact absurd e (H g)
theorem ax6 {k g:Nat}{E:TypeId}{xs:List PV}{v:Value}{fz:List Nat} (hw:WRel Γ D ow μ st w) (h:SRep Γ.P D w ow μ st (.arr k g E) v) (M:agh st k g E=some xs) (hf:k∈fz):SRep Γ.P (ahc D ow μ st fz) w ow μ st (.slice E xs) v:=by
 have m:Moves D w ow μ st (ahc D ow μ st fz) w ow μ st:=ahd fz;have z:=adb M;cases h with
 | arrOld o H=>rw [z] at o;cases o;omega
 | arrNil o=>rw [z] at o;cases o;exact .slice (.nil λ_=>rfl)
 | @arr _ _ cap _ _ cur o hl aa hc ho ab=>
  rw [z] at o;cases o;have I:xs.length*Γ.P.cellsOf E<=cur.size/\∀ (i:Nat) (x:PV),xs[i]?=some x->Rep Γ.P D w E x ((cur.toList.drop (i*Γ.P.cellsOf E)).take (Γ.P.cellsOf E)):=by
   rcases hw.obj k _ z with h0 | ⟨Z,q1,q2,q3,q4,q5⟩
   ·subst h0;exact ⟨by simp,λi x J=>by simp at J⟩
   ·rw [hc] at q1;cases q1;exact ⟨q4,q5⟩
  refine .slice (.mk (L:=cur.toList.take (xs.length*Γ.P.cellsOf E)) hl (by simp;omega) (λi x J=>?_) (λj v O=>?_))
  ·have h2:(i+1)*Γ.P.cellsOf E<=xs.length*Γ.P.cellsOf E:=Ay _ (by have:=(List.getElem?_eq_some_iff.1 J).1;omega);rw [Nat.add_mul] at h2;rw [List.drop_take,List.take_take,Nat.min_eq_left (by omega)];exact (I.2 i x J).mono m.dom m.keeps
  ·have H:j<xs.length*Γ.P.cellsOf E:=by have:=(List.getElem?_eq_some_iff.1 O).1;simp at this;omega
   rw [List.getElem?_take_of_lt H] at O;refine ⟨Or.inr ⟨k,_,hf,z,Or.inr ⟨E,g,xs,rfl⟩,ho,rfl⟩,?_⟩;simp only [World.cell?,hc];simpa using O
theorem axi {k:Nat}{s:SV}:∀ {o:List SV}{i:Nat},o[i]?=some s->k∈aof s->k∈ava o:=by
 intro o;induction o with
 | nil=>intro i h;simp at h
 | cons x r H=>
  intro i h z;cases i with
  | zero=>simp at h;subst h;simp [ava,z]
  | succ i=>simp only [ava,Bk];exact Or.inr (H (by simpa using h) z)
theorem a1f:∀ (h:List SV) (i:Nat),(frzL st h)[i]?=(h[i]?).map (frzS st):=by
 intro h;induction h with
 | nil=>intro i;simp [frzL]
 | cons x r o=>intro i;cases i with
  | zero=>simp [frzL]
  | succ i=>simpa [frzL] using o i
theorem aso:∀ (h:List SV),(frzL st h).length=h.length:=by
 intro h;induction h with
 | nil=>rfl
 | cons x r o=>simp [frzL,o]
theorem avw {fz:List Nat} (hw:WRel Γ D ow μ st w) {s:SV}{v:Value} (h:SRep Γ.P D w ow μ st s v):(∀ k,k∈aof s->k∈fz)->SRep Γ.P (ahc D ow μ st fz) w ow μ st (frzS st s) v:=by
 have m:Moves D w ow μ st (ahc D ow μ st fz) w ow μ st:=ahd fz;have I:∀ (k g:Nat) (E:TypeId) (v:Value),SRep Γ.P D w ow μ st (.arr k g E) v->k∈fz->SRep Γ.P (ahc D ow μ st fz) w ow μ st (frzS st (.arr k g E)) v:=by
  intro k g E v h J;simp only [frzS];split
  ·rename_i xs Z;exact ax6 hw h Z J
  ·exact .undef
 induction h with
 | agg hT hl ho hv hs ih=>intro J;simp only [frzS];refine .agg hT hl ho (by rw [aso];exact hv) (λi x f hx aa=>?_);rw [a1f] at hx;obtain ⟨y,hy,rfl⟩:=Option.map_eq_some_iff.1 hx;exact ih i y f hy aa (λk hk=>J k (by simp only [aof];exact axi hy hk))
 | arrOld o z H=>intro J;exact I _ _ _ _ (.arrOld o z H) (J _ (by simp [aof]))
 | arrNil o=>intro J;exact I _ _ _ _ (.arrNil o) (J _ (by simp [aof]))
 | arr o z H M O h6=>intro J;exact I _ _ _ _ (.arr o z H M O h6) (J _ (by simp [aof]))
 | undef=>intro _;exact .undef
 | bool=>intro _;exact .bool
 | int=>intro _;exact .int
 | str=>intro _;exact .str
 | slice h=>intro _;exact (SRep.slice h).mono m
 | data o z=>intro _;exact (SRep.data o z).mono m
 | map h=>intro _;exact (SRep.map h).mono m
 | nils=>intro _;exact .nils
 | acc o z H M=>intro _;exact (SRep.acc o z H M).mono m
 | ref o z=>intro _;exact .ref o z
 | @mref k K E es o=>intro J;simp only [frzS,o];obtain ⟨ents,clock,kc,vc,r1,r2,r3,r4,r5,r6,r7⟩:=hw.map k K E es o;exact .map (.mk kc vc r1 (Or.inr ⟨k,_,J k (by simp [aof]),o,Or.inl ⟨K,E,es,rfl⟩,r2,rfl⟩) r4 (λi x a=>(r5 i x a).mono m.dom m.keeps) (λi x a=>(r6 i x a).mono m.dom m.keeps) r7)
 | iref o=>intro _;exact .iref o
 | mitr o=>intro _;exact .mitr o
 | bref o=>intro _;exact .bref o
 | nx o z=>intro _;exact .nx o z
 | eif o z=>intro _;exact .eif o z
 | pto o z=>intro _;exact (SRep.pto o z).mono m
 | fn o z H _=>intro _;exact (SRep.fn o z H).mono m
 | tup o z _=>intro _;exact (SRep.tup o z).mono m
 | raw=>intro _;exact .raw
 | lit h=>intro _;exact (SRep.lit h).mono m
 | sln h=>intro _;exact (SRep.sln h).mono m
 | arefOld o z H=>intro _;exact .arefOld o z H
 | aref o z H M O=>intro _;exact .aref o z H M O
 | eref o z H=>intro _;exact .eref o z H
 | asl o z H M=>intro _;exact .asl o z H M
 | ifc h _=>intro _;exact (SRep.ifc h).mono m
theorem atg {own:Bool}{T:TypeId}{s Z:SV}{v:Value}{fz:List Nat} (J:WRel Γ D ow μ st w) (h:SRep Γ.P D w ow μ st s v) (o:a6j Γ.P own st T s=some Z) (I:∀ k,k∈frozen own [s]->k∈fz):SRep Γ.P (ahc D ow μ st fz) w ow μ st Z v:=by
 have m:Moves D w ow μ st (ahc D ow μ st fz) w ow μ st:=ahd fz;unfold a6j at o;split at o
 ·rename_i k;split at o
  ·rename_i K E es z;simp only [Al] at o;subst o;cases h;obtain ⟨ents,clock,kc,vc,r1,r2,r3,r4,r5,r6,r7⟩:=J.map k K E es z;exact .map (.mk kc vc r1 (Or.inr ⟨k,_,I k (by simp [frozen]),z,Or.inl ⟨K,E,es,rfl⟩,r2,rfl⟩) r4 (λi x a=>(r5 i x a).mono m.dom m.keeps) (λi x a=>(r6 i x a).mono m.dom m.keeps) r7)
  ·simp at o
 ·rename_i k g E;cases own with
  | true=>simp only [Af,Al] at o;subst o;exact h.mono m
  | false=>
   simp only [Ah] at o;split at o
   ·rename_i xs H;simp only [Al] at o;subst o;exact ax6 J h H (I k (by simp [frozen]))
   ·cases o
 ·simp at o
 ·simp only [Al] at o;subst o;exact h.mono m
 ·simp only [Al] at o;subst o;exact h.mono m
 ·rename_i T' fs;cases own with
  | true=>
   simp only [Af] at o;split at o
   ·rename_i x M;simp only [Al] at o;subst o;exact (aco (h.mono m) M) _ _ _
   ·simp only [Al] at o;subst o;exact h.mono m
  | false=>
   simp only [Ah] at o;have O:=avw (fz:=fz) J h (λk z=>I k (by simp only [aof] at z;simp [frozen,z]));split at o
   ·rename_i x M;simp only [Al] at o;subst o;exact (aco O M) _ _ _
   ·simp only [Al] at o;subst o;exact O
 ·cases own with
  | true=>simp only [Af,Al] at o;subst o;exact h.mono m
  | false=>simp only [Ah] at o;exact (aco (h.mono m) o) _ _ _
 ·exact (aco (h.mono m) o) _ _ _
theorem apj {own:Bool}{fz:List Nat} (hw:WRel Γ D ow μ st w):∀ (O:List TypeId) (z o:List SV),aii Γ.P own st O z=some o->(∀ k,k∈frozen own z->k∈fz)->∀ (J:List Value),(∀ (i:Nat) (s:SV) (v:Value),z[i]?=some s->J[i]?=some v->SRep Γ.P D w ow μ st s v)->
 o.length=z.length/\∀ (i:Nat) (s:SV) (v:Value),o[i]?=some s->J[i]?=some v->SRep Γ.P (ahc D ow μ st fz) w ow μ st s v:=by
 intro O
 induction O with
 | nil=>
  intro z o h Z J I
  cases z with
  | nil=>simp [aii] at h;subst h;exact ⟨rfl,λi s v H=>by simp at H⟩
  | cons=>simp [aii] at h
 | cons T O ih=>
  intro z o h Z J I
  cases z with
  | nil=>simp [aii] at h
  | cons s z=>
   simp only [aii] at h
   split at h
   ·rename_i x q hx hq;simp only [Al] at h;subst h;have aa:∀ k,k∈frozen own [s]->k∈fz:=λk hk=>Z k (by cases own<;>cases s<;>simp_all [frozen]);have ab:∀ k,k∈frozen own z->k∈fz:=λk hk=>Z k (by cases own<;>cases s<;>simp_all [frozen]);obtain ⟨h1,h2⟩:=ih z q hq ab J.tail (λi s v H M=>I (i+1) s v (by simpa using H) (by simpa using M));refine ⟨by simp [h1],λi y v H M=>?_⟩;cases i with
    | zero=>simp at H;subst H;exact atg hw (I 0 s v (by simp) M) hx aa
    | succ i=>exact h2 i y v (by simpa using H) (by simpa using M)
   ·cases h
theorem aq7 (hw:WRel Γ D ow μ st w) {e:Env}{a:Act} (hs:Slots Γ D ow μ e st a w):∀ (rs:List ResultVar) (I:List SV),aq6 Γ.P e st rs=some I->
 ∃ vs:List Value,(rs.mapM λr=>(match r with | .tmp t=>pure (a.tmps.getD t Go.undef) | .cell x t=>do loadVar t (<-asAddr (a.tmps.getD x Go.undef)):Sem Value)).run Γ.P w=.ok vs w/\vs.length=I.length/\
  ∀ (i:Nat) (s:SV) (v:Value),I[i]?=some s->vs[i]?=some v->SRep Γ.P D w ow μ st s v:=by
 intro rs
 induction rs with
 | nil=>intro I h;simp [aq6] at h;subst h;exact ⟨[],by simp,rfl,λi s v M=>by simp at M⟩
 | cons r rr ih=>
  intro I h
  unfold aq6 at h
  split at h
  ·rename_i x q o hq;simp only [Al] at h;subst h;obtain ⟨vs,h1,h2,h3⟩:=ih q hq;have Z:∃ v,(match r with | .tmp t=>pure (a.tmps.getD t Go.undef) | .cell x t=>do loadVar t (<-asAddr (a.tmps.getD x Go.undef)):Sem Value).run Γ.P w=.ok v w/\SRep Γ.P D w ow μ st x v:=by
    unfold a4l at o;split at o
    ·rename_i t;refine ⟨a.tmps.getD t Go.undef,by simp,?_⟩;have H:=hs.slot t;split at o
     ·cases o
     ·rename_i ae;simp only [Al] at o;subst o;cases he:e t with
      | gd u aa y=>exact absurd he (ae u aa y)
      | _=>rw [he] at H;exact H
    ·rename_i t T';split at o
     ·rename_i k ab he;cases J:(Nat.beq T' ab&&(Γ.P.underlying T').isSome&&(aak Γ.P T'||Nat.beq (Γ.P.cellsOf T') 1)) with
      | false=>rw [J] at o;simp at o
      | true=>
       rw [J] at o;simp only [Af] at o;simp only [Ai,Bd] at J;have:=Aa J.1.1;subst this;split at o
       ·rename_i TB s hk;simp only [Al] at o;subst o;have H:=hs.slot t;rw [he] at H;simp only [SlotRep] at H;generalize ad:a.tmps.getD t Go.undef=av at H;cases H with
        | @ref _ _ _ ah s' off O hp=>
         rw [hk] at O;cases O;simp only [abv,Al,Prod.mk.injEq] at hp;obtain ⟨rfl,rfl⟩:=hp;obtain ⟨z,T2,q1,q2,q3,q4,q5⟩:=hw.box k _ s hk;refine ⟨pack Γ.P TB z,?_,q5⟩;have hl:=adm J.1.2 w (μ k) 0 z (λj v hj=>by simp [World.cell?,q1,hj]) (λ_=>q2) (λha=>by
          have h1:Γ.P.cellsOf TB=1:=by
             rcases J.2 with h | h
             ·rw [ha] at h;cases h
             ·exact Aa h
          rw [h1] at q2;match z,q2 with
          | [u],_=>exact ⟨u,rfl⟩)
         simp only [ad,asAddr,Sem.run_bind,Sem.run_pure,Result.andThen_ok];exact hl
       ·simp at o
     ·simp at o
   obtain ⟨v,af,ag⟩:=Z;refine ⟨v::vs,?_,by simp [h2],λi s u M hu=>?_⟩
   ·simp only [List.mapM_cons,Sem.run_bind,af,Result.andThen_ok,h1,Sem.run_pure]
   ·cases i with
    | zero=>simp at M hu;subst M;subst hu;exact ag
    | succ i=>exact h3 i s u (by simpa using M) (by simpa using hu)
  ·simp at h
theorem Objs.more {P:Program}{D':Dom} (h:Objs P D ow μ st w) (hD:∀ b o,D b o->D' b o) (hN:∀ b o,D' b o->D b o\/(ow b=none/\b<w.heap.size)):Objs P D' ow μ st w:=by
 have z:∀ b k,ow b=some k->∀ o,D' b o->D b o:=λb k I o d=>(hN b o d).resolve_right (λhh=>by rw [I] at hh;cases hh.1);have m:Moves D w ow μ st D' w ow μ st:=⟨hD,Keeps.refl _ _,λk T s e=>⟨rfl,s,e⟩,λk K E es e=>⟨rfl,es,e⟩,λk b e _=>⟨rfl,b,e,rfl⟩,λk E g xs e=>⟨g,xs,e,Nat.le_refl _,λ_=>⟨rfl,ArrKeep.refl _ _ _ _ _⟩⟩,λk g e=>⟨g,e,Nat.le_refl _,λ_ b I=>⟨rfl,I,z b k I⟩⟩⟩;refine ⟨λk b hk=>?_,h.owlt,λb o d=>?_,λb k x I e hx o d=>h.lone b k x I e hx o (z b k I o d)⟩
 ·have J:=h.obj k b hk;cases b with
  | box T s=>obtain ⟨c,T',Z,M,O,q4,q5⟩:=J;exact ⟨c,T',Z,M,O,λo d=>q4 o (z _ k O o d),q5.mono m⟩
  | map K E es=>obtain ⟨ents,clock,kc,vc,Z,M,O⟩:=J;exact OMapRep.mono ⟨ents,clock,kc,vc,Z,M,O⟩ m.dom m.keeps rfl rfl M (λo d=>O.1 o (z _ k M o d))
  | acc g=>trivial
  | hole=>trivial
  | iter s p=>exact ObjRep.mono (P:=P) (b:=.iter s p) J m.dom m.keeps (λ_=>rfl) (λc H=>⟨rfl,H,z c k H⟩)
  | mit K E es=>exact ObjRep.mono (P:=P) (b:=.mit K E es) J m.dom m.keeps (λ_=>rfl) (λc H=>⟨rfl,H,z c k H⟩)
  | bld T bs=>exact ObjRep.mono (P:=P) (b:=.bld T bs) J m.dom m.keeps (λ_=>rfl) (λc H=>⟨rfl,H,z c k H⟩)
  | arr E g xs=>exact ObjRep.mono (P:=P) (b:=.arr E g xs) J m.dom m.keeps (λ_=>rfl) (λc H=>⟨rfl,H,z c k H⟩)
 ·rcases hN b o d with d | d
  ·exact h.dlt b o d
  ·exact d.2
theorem avo (hw:WRel Γ D ow μ st w) {e:Env}{a:Act} (hs:Slots Γ D ow μ e st a w) {ts:List TypeId}{rs:List ResultVar}{af:List SV}{sub:List BX}{own:Bool} (h:aoo Γ.P own e st Γ.np ts rs=some (af,sub)):
 ∃ Z:List Value,(rs.mapM λr=>(match r with | .tmp t=>pure (a.tmps.getD t Go.undef) | .cell x t=>do loadVar t (<-asAddr (a.tmps.getD x Go.undef)):Sem Value)).run Γ.P w=.ok Z w/\
  ∃ (D':Dom) (ks:List Nat),ks.Nodup/\(∃ r,ks=List.range Γ.np++r)/\agk st (ab9 ks) (aia st) ks=some sub/\(∀ b o,D b o->D' b o)/\(∀ b o,D' b o->D b o\/∃ k,ow b=some k/\Γ.np<=k)/\
   Objs Γ.P D' (afj ow ks) (λj=>μ (ks.getD j 0)) sub w/\SRep Γ.P D' w (afj ow ks) (λj=>μ (ks.getD j 0)) sub (ac9 af) (if h:Z.toArray.size=1 then Z.toArray[0] else .tuple Z.toArray):=by
 unfold aoo at h
 split at h
 ·cases h
 ·rename_i H ae;split at h
  ·cases h
  ·rename_i z ad;obtain ⟨Z,h1,h2,h3⟩:=aq7 hw hs rs H ae;cases ab:(frozen own H).all (λk=>!((ae8 st Γ.np z).any (Nat.beq k))) with
   | false=>rw [ab] at h;cases h
   | true=>
    rw [ab] at h;simp only [Af] at h;split at h
    ·rename_i al ak hr I;simp only [Al,Prod.mk.injEq] at h;obtain ⟨rfl,rfl⟩:=h;have hn:=akf st Γ.np z;obtain ⟨r,O⟩:=air st Γ.np z;generalize ae8 st Γ.np z=ks at*;have J:∀ k,k∈frozen own H->k∉ks:=by
      intro k hk hm;have:=List.all_eq_true.1 ab k hk;have h2:ks.any (Nat.beq k)=true:=List.any_eq_true.2 ⟨k,hm,Bi k⟩;rw [h2] at this;cases this
     obtain ⟨l1,l2⟩:=apj (fz:=frozen own H) hw ts H z ad (λk hk=>hk) Z h3;have aa:∀ b k,k∉ks->ow b=some k->afj ow ks b=none:=λb k hk ob=>ajy (λk' ah e=>by rw [ob] at e;cases e;exact hk ah);refine ⟨Z,h1,ahc D ow μ st (frozen own H),ks,hn,⟨r,O⟩,I,λ_ _ d=>Or.inl d,λb o d=>?_,?_,?_⟩
     ·rcases aj9 d with d | ⟨k,k1,k2,k3⟩
      ·exact Or.inl d
      ·refine Or.inr ⟨k,k2,?_⟩;rcases Nat.lt_or_ge k Γ.np with ai | ag
       ·exact absurd (by rw [O];simp [ai]) (J k k1)
       ·exact ag
     ·refine (hw.objs.sub hn I).more (λ_ _ d=>Or.inl d) (λb o d=>?_);rcases aj9 d with d | ⟨k,k1,k2,k3⟩
      ·exact Or.inl d
      ·exact Or.inr ⟨aa b k (J k k1) k2,(hw.owlt b k k2).1⟩
     ·refine ara (Emb.sub hn I) ?_ hr;by_cases M:Z.length=1
      ·obtain ⟨v,rfl⟩:=List.length_eq_one_iff.1 M;obtain ⟨s,rfl⟩:=List.length_eq_one_iff.1 (show z.length=1 by omega);simpa [ac9] using l2 0 s v rfl rfl
      ·have aj:z.length≠1:=by omega
       have hr:ac9 z=.tup z:=by
        match z,aj with
        | [],_=>rfl
        | [x],h2=>exact absurd rfl h2
        | x::y::r,_=>rfl
       rw [hr,dif_neg (by simpa using M)];exact .tup (by simp;omega) (λi s v hi hv=>l2 i s v hi (by simpa using hv))
    ·cases h
end
theorem ah9 {C:Cfg} (hC:aam C) {f:FuncId}{fn:Func}{c:Code} (hf:C.P.funcs[f]?=some fn) (hb:fn.body=some c) (hn:fn.ntmps=C.n) (ap:(fn.name== "runtime.NumGoroutine")=false) (hL:∀ an,an∈aay c->LoopOk C an)
 {R:Type}{as:List SV}{st:List BX}{K:List SV->List BX->Option R}{r:R}{ae:List SV}{al:List BX} (h:avn C fn as st K=some r) (aI:as.length<=C.n) (aD:st.length=C.np)
 (hK:∀ rs s,K rs s=some r->∀ (D:Dom) (w:World) (ow:Own) (μ:Nat->Nat) (v:Value) (D':Dom) (w':World),Post C.P D w ow μ st rs s v D' w'->Post C.P D w ow μ st ae al v D' w'/\agu ae v=agu rs v):Meets C.P f as st ae al:=by
 refine ⟨aa7 hf ap (by rw [hb];rfl),λD ow μ w H M=>?_⟩
 unfold avn at h
 rw [hb] at h
 simp only at h
 refine calls_of_wp hf hb ?_
 let Γ:Ctx:={ P:=C.P,n:=C.n,B:=w.heap.size,w0:=w,D0:=D,ow0:=ow,np:=st.length,μ0:=μ,K0:=λk=>match st[k]? with | some b=>b.kind | none=>[],L0:=λk=>match st[k]? with | some (.arr _ _ xs)=>xs.length | _=>0,hB:=rfl,tabs:=M.tabs }
 have hw:WRel Γ D ow μ st w:=by
  refine ⟨λk T s e=>M.objs.obj k _ e,λk K E es e=>M.objs.obj k _ e,λk b e=>?_,M.objs.owlt,M.objs.dlt,rfl,rfl,rfl,Nat.le_refl _,λ_ _ _=>rfl,λ_ _ d=>d,λ_ _ d=>Or.inl d,λ_ _ h _=>h,Nat.le_refl _,λ_ _ _=>rfl,λk hk=>?_,M.objs.lone,Keeps.refl _ _,λk hk E xs e=>⟨?_,ArrKeep.refl _ _ _ _ _⟩⟩
  ·have h0:=M.objs.obj k b e;cases b with
   | box T s=>trivial
   | map K E es=>trivial
   | acc g=>trivial
   | hole=>trivial
   | _=>exact h0
  ·have au:st[k]?=some st[k]:=Aq hk;exact ⟨st[k],au,by show _=(match st[k]? with | some b=>b.kind | none=>[]);rw [au]⟩
  ·show _=(match st[k]? with | some (.arr _ _ xs)=>xs.length | _=>0);rw [e]
 have aF:Slots Γ D ow μ (anh as) st { tmps:=H++Array.replicate (fn.ntmps-H.size) Go.undef,defers:=[] } w:=by
  refine ⟨by show (H++_).size=C.n;have:=M.size;simp;omega,rfl,λt=>?_⟩;unfold anh;by_cases ht:t<as.length
  ·have h1:as[t]?=some as[t]:=Aq ht;have am:t<H.size:=by rw [M.size];exact ht
   have h2:H[t]?=some H[t]:=Array.getElem?_eq_getElem am;have e1:as.getD t .undef=as[t]:=by simp [List.getD,h1]
   have e2:(H++Array.replicate (fn.ntmps-H.size) Go.undef).getD t Go.undef=H[t]:=by
    have e:∀ (x:Array Value),x.getD t Go.undef=(x[t]?).getD Go.undef:=λx=>by simp
    rw [e,Array.getElem?_append_left am,h2];rfl
   show SlotRep _ _ _ _ _ _ _ (as.getD t .undef) ((H++Array.replicate (fn.ntmps-H.size) Go.undef).getD t Go.undef);rw [e1,e2];exact (M.arg t _ _ h1 h2).slot
  ·have e1:as.getD t .undef=.undef:=by simp [List.getD,A4 (Nat.le_of_not_lt ht)]
   rw [e1];exact .undef
 have aC:NoGd (anh as):=by
  intro t u aH x he;unfold anh at he;by_cases ht:t<as.length
  ·have h1:as[t]?=some as[t]:=Aq ht;have am:t<H.size:=by rw [M.size];exact ht
   have:=M.arg t _ _ h1 (Array.getElem?_eq_getElem am);have e1:as.getD t .undef=as[t]:=by simp [List.getD,h1]
   rw [e1] at he;rw [he] at this;cases this
  ·have e1:as.getD t .undef=.undef:=by simp [List.getD,A4 (Nat.le_of_not_lt ht)]
   rw [e1] at he;cases he
 have ay:∀ (rs:List SV) (s':List BX) (v:Value) (w':World) (D1 D':Dom) (ab:Own) (O:Nat->Nat) (st':List BX) (ks r':List Nat),K rs s'=some r->WRel Γ D1 ab O st' w'->ks.Nodup->ks=List.range st.length++r'->agk st' (ab9 ks) (aia st') ks=some s'->
  (∀ b o,D1 b o->D' b o)->(∀ b o,D' b o->D1 b o\/∃ k,ab b=some k/\st.length<=k)->Objs C.P D' (afj ab ks) (λj=>O (ks.getD j 0)) s' w'->agn C.P D' w' (afj ab ks) (λj=>O (ks.getD j 0)) s' rs v->
  Post C.P D w ow μ st ae al v D' w'/\agu ae v=agu rs v:=by
  intro rs s' v w' D1 D' ab O st' ks r' hk z ah af ad hD hN ai aa
  have J:∀ k,k<st.length->ks[k]?=some k:=by intro k hk;rw [af,Au (by simpa using hk)];simp [hk]
  obtain ⟨l1,l2⟩:=ahu ks s' ad
  refine hK rs s' hk D w ow μ _ D' w' ⟨λb o d=>hD b o (z.dom0 b o d),λb o d=>?_,⟨afj ab ks,λj=>O (ks.getD j 0),ai,aa,λb j hb ao=>?_,λk b ak=>?_,λk E g xs ys ak aj=>?_⟩,z.os,z.tape,z.output,z.hs,z.old,z.keep0⟩
  ·rcases hN b o d with d | ⟨k,k1,k2⟩
   ·exact z.domN b o d
   ·rcases Nat.lt_or_ge b w.heap.size with ao | aB
    ·have h0:=z.owN b k k1 ao;have:=(M.objs.owlt b k h0).2;omega
    ·exact Or.inr (Or.inl aB)
  ·obtain ⟨k,hj,aE⟩:=ad9 hb;have h0:=z.owN b k aE ao;have I:=(M.objs.owlt b k h0).2;have:=al8 ah hj (J k I);subst this;exact h0
  ·have I:=(List.getElem?_eq_some_iff.1 ak).1;obtain ⟨x,hx,p1⟩:=z.par k I;obtain ⟨b1,b2,q1,q2,q3⟩:=l2 k k (J k I);rw [hx] at q1;cases q1;have hK:Γ.K0 k=b.kind:=by show (match st[k]? with | some b=>b.kind | none=>[])=_;rw [ak]
   refine ⟨b2,q3,(acg q2).1.trans (p1.trans hK),λ_ ar=>?_⟩;have e:ks.getD k 0=k:=by simp [List.getD,J k I]
   show O (ks.getD k 0)=μ k;rw [e];refine z.mu0 k I (λE hE=>?_);rw [hK] at hE;obtain ⟨g,xs,rfl⟩:=ahk hE;exact ar _ _ _ rfl
  ·have I:=(List.getElem?_eq_some_iff.1 ak).1;obtain ⟨b1,b2,q1,q2,q3⟩:=l2 k k (J k I);rw [aj] at q3;cases q3;obtain ⟨g1,zs,rfl⟩:=ahk (acg q2).1.symm;have aG:=(acg q2).2.2 _ _ _ rfl;have ax:aia st' k=(bif Nat.beq g1 0 then 0 else 1):=by unfold aia;rw [q1]
   injection aG with _ q4 q5;subst q5;have aA:g1=0:=by
    rw [ax] at q4;cases hb:Nat.beq g1 0 with
    | true=>exact Aa hb
    | false=>rw [hb] at q4;simp at q4
   subst aA;obtain ⟨r1,r2⟩:=z.arr0 k I E ys q1;have hL:Γ.L0 k=xs.length:=by show (match st[k]? with | some (.arr _ _ xs)=>xs.length | _=>0)=_;rw [ak]
   refine ⟨r1.trans hL,λcur hc ho=>?_⟩;obtain ⟨t1,t2,aq,t3,t4⟩:=r2 cur hc ho;have e:ks.getD k 0=k:=by simp [List.getD,J k I]
   refine ⟨?_,apb ah (J k I) t2,aq,t3,t4⟩;show O (ks.getD k 0)=μ k;rw [e];exact t1
 have fin:∀ e' st' a' w',(match aoo C.P C.own e' st' st.length fn.resultTypes.toList fn.results.toList with | some (rs,s')=>K rs s' | none=>none)=some r->Rel Γ e' st' a' w'->
  a'.defers=[]/\∃ v,(results fn a'.tmps).run C.P w'=.ok v w'/\∃ az D',Ending.returned v=agu ae az/\Post C.P D w ow μ st ae al az D' w':=by
  intro e' st' a' w' hk ag
  obtain ⟨D1,ab,O,z,aj⟩:=ag
  split at hk
  ·rename_i rs s' Z;obtain ⟨vs,h1,D',ks,ah,⟨r',af⟩,ad,hD,hN,ai,aa⟩:=avo z aj Z;obtain ⟨aa,aw⟩:=ag7 aa;obtain ⟨hp,he⟩:=ay rs s' _ w' D1 D' ab O st' ks r' hk z ah af ad hD hN ai aa;refine ⟨aj.defers,if h:vs.toArray.size=1 then vs.toArray[0] else .tuple vs.toArray,?_,_,D',(he.trans aw).symm,hp⟩;unfold results;rw [Sem.run_bind,Array.mapM_eq_mapM_toList,Sem.run_map];exact congrArg (λr:Result (List Value)=>(r.andThen λa w'=>Result.ok a.toArray w').andThen λa w'=>Sem.run C.P (pure (if h:a.size=1 then a[0] else Value.tuple a)) w') (h1:_=_)
  ·simp at hk
 have Z:=ano (Γ:=Γ) hC rfl rfl aD r c hL _ (anh as) st h (bodyPost C.P fn (λe w'=>∃ v D',e=agu ae v/\Post C.P D w ow μ st ae al v D' w'))
  (λe' st' a' w' hk _ ag=>fin e' st' a' w' hk ag) (λi e' st' a' w' hk _ _=>by simp at hk) (λe' st' a' w' hk _ ag=>fin e' st' a' w' hk ag) (λs st' v a' w' hk hp=>?_) _ w ⟨D,ow,μ,hw,aF⟩ aC
 ·exact Z
 obtain ⟨av,D1,ab,O,z,aj⟩:=hp
 refine ⟨av,?_⟩
 simp only at hk
 split at hk
 ·rename_i rs s' Z;unfold ax0 at Z;split at Z
  ·rename_i T x;split at Z
   ·rename_i x' sub hc ad;simp only [Al,Prod.mk.injEq] at Z;obtain ⟨rfl,rfl⟩:=Z;have ah:=akf st' st.length [];obtain ⟨r',af⟩:=air st' st.length [];have aa:agn C.P D1 w' (afj ab (ae8 st' st.length [])) (λj=>O ((ae8 st' st.length []).getD j 0)) sub [.pan (.ifc T x')] v:=by
     cases aj with
     | ifc hu=>exact .ifc (aco hu hc _ _ _)
    obtain ⟨hp,he⟩:=ay _ _ v w' D1 D1 ab O st' _ r' hk z ah af ad (λ_ _ d=>d) (λ_ _ d=>Or.inl d) (z.objs.sub ah ad) aa;exact ⟨v,D1,he.symm,hp⟩
   ·cases Z
  ·cases Z
 ·cases hk
end Go.Ab
