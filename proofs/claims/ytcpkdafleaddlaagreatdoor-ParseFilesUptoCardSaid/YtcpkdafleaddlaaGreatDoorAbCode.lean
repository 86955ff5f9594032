/- The evaluator is sound: code, functions. -/
import Derived.Test.YtcpkdafleaddlaaGreatDoorAbDraw
set_option linter.unusedVariables false
set_option linter.unusedSimpArgs false
set_option linter.unnecessarySimpa false
namespace Go.Ab
open Go
def NoGd (e:Env):Prop:=∀ t u d x,e t≠.gd u d x
theorem NoGd.inv {e:Env} (h:NoGd e) (l:List Oper):GInv e l:=λt u d x m=>absurd m (h t u d x)
theorem NoGd.sweep (e:Env):NoGd (sweep e):=by intro t u d x h;grind [Ab.sweep]
theorem NoGd.set {e:Env} (h:NoGd e) (t:Nat) {s:SV} (H:∀ u d x,s≠.gd u d x):NoGd (e.set t s):=by
 intro o u d x m;unfold Env.set at m;cases z:Nat.beq o t with
 | true=>grind
 | false=>rw [z] at m;exact h o u d x m
theorem Rel.less {Γ:Ctx}{e d:Env}{st:List BX}{a:Act}{w:World} (h:Rel Γ e st a w) (m:∀ t,d t=.undef\/d t=e t):Rel Γ d st a w:=by
 obtain ⟨D,ow,μ,z,o⟩:=h;refine ⟨D,ow,μ,z,o.size,o.defers,λt=>?_⟩;rcases m t with h | h
 ·rw [h];exact .undef
 ·rw [h];exact o.slot t
theorem Rel.sweep {Γ:Ctx}{e:Env}{st:List BX}{a:Act}{w:World} (h:Rel Γ e st a w):Rel Γ (sweep e) st a w:=
 h.less λt=>by grind [Ab.sweep]
theorem ava {Γ:Ctx}{R:Type}{C:Cfg} (W:aar C) (Y:C.P=Γ.P) (hn:Γ.n=C.n) {ops:Array Oper}{r:R}{K:Env->List BX->Option R}{X:SV->List BX->Option R}{Q:Exit->Act->World->Prop}
 (O:∀ M st' z w',K M st'=some r->Rel Γ M st' z w'->Q .normal z w') (Z:∀ s st' v z w',X s st'=some r->PRel Γ s st' v z w'->Q (.panic [{ v,recovered:=false }]) z w'):∀ (l:List Oper) (i:Nat),ops.toList.drop i=l->∀ (e:Env) (st:List BX),azj C ops l e st K X=some r->∀ (a:Act) (w:World),Rel Γ e st a w->GInv e l->wpOps Γ.P ops Q (List.range' i l.length) a w:=by
 intro l
 induction l with
 | nil=>intro i H e st h a w d U;exact O _ _ _ _ h d
 | cons o m ih=>
  intro i H e st h a w d U
  have ho:ops[i]?=some o:=by
   have:(ops.toList.drop i)[0]?=some o:=by rw [H];rfl
   simpa using this
  have V:ops.toList.drop (i+1)=m:=by
   have:(ops.toList.drop i).drop 1=m:=by rw [H];rfl
   grind [List.drop_drop]
  grind [List.length_cons,List.range'_succ,wpOps_cons,azj,axt]
def bdo (Γ:Ctx) (x:LEx) (e:Env) (st:List BX) (Q:Exit->Act->World->Prop):Prop:=
 match x with
 | .exit i=>∀ a w,Rel Γ e st a w->Q (.exit i) a w
 | .ret=>∀ a w,Rel Γ e st a w->Q .ret a w
 | .pan=>∀ v a w,PRel Γ (e 0) st v a w->Q (.panic [{ v,recovered:=false }]) a w
def atl (C:Cfg) (d:Code) (m:Nat) (e:Env) (st:List BX) (x:LEx) (o:Env) (st':List BX):Prop:=
 ∀ (Γ:Ctx),Γ.P=C.P->Γ.n=C.n->Γ.np=C.np->∀ (Q:Exit->Act->World->Prop) (a:Act) (w:World),Rel Γ e st a w->NoGd e->bdo Γ x o st' Q->Code.rounds C.P d Q m a w
def aai (C:Cfg) (d:Code):Prop:=∀ (R:Type) (e:Env) (st:List BX) (K:LEx->Env->List BX->Option R) (r:R),C.lam R (amq d) e st K=some r->
 ∃ x o st' m,K x o st'=some r/\NoGd o/\atl C d m e st x o st'
def aa6:Code->List Code
 | .seq a b=>aa6 a++aa6 b
 | .cond _ a b=>aa6 a++aa6 b
 | .block _ c=>aa6 c
 | .loop c=>[c]
 | _=>[]
theorem aqb {Γ:Ctx}{R:Type}{C:Cfg} (hC:aar C) (hP:C.P=Γ.P) (hn:Γ.n=C.n) (al:Γ.np=C.np) (r:R):∀ (c:Code),(∀ z,z∈aa6 c->aai C z)->∀ (K:Ks R) (e:Env) (st:List BX),exec C c K e st=some r->
 ∀ (Q:Exit->Act->World->Prop),(∀ M st' H w',K.norm M st'=some r->NoGd M->Rel Γ M st' H w'->Q .normal H w')->(∀ i M st' H w',K.exit i M st'=some r->NoGd M->Rel Γ M st' H w'->Q (.exit i) H w')->
  (∀ M st' H w',K.ret M st'=some r->NoGd M->Rel Γ M st' H w'->Q .ret H w')->(∀ s st' v H w',K.pan s st'=some r->PRel Γ s st' v H w'->Q (.panic [{ v,recovered:=false }]) H w')->∀ (a:Act) (w:World),Rel Γ e st a w->NoGd e->c.wp Γ.P Q a w:=by
 intro c
 induction c with
 | skip=>intro _ K e st h Q U V X W a w d O;exact wp_skip (U _ _ _ _ h O d)
 | region id ops ag=>
  intro _ K e st h Q U V X W a w d O
  unfold exec runR at h
  cases ag with
  | false=>
   simp only [Ae] at h
   refine wp_region ?_
   have:=ava hC hP hn (ops:=ops) (Q:=Q) (λM st' H w' Y o=>U _ _ H w' Y (NoGd.sweep M) o.sweep) W ops.toList 0 (by simp) e st h a w d (O.inv _)
   grind [List.range_eq_range',Array.length_toList]
  | true=>
   simp only [Ad] at h
   cases hd:at6 C.P ops with
   | false=>grind
   | true=>
    rw [hd] at h
    simp only [Ad] at h
    have hm:Γ.P.follows .mixedOrders=true:=by rw [hP] at hd;simp only [at6,Ai] at hd;exact hd.1.1
    have o:Rel Γ e st a { w with drawn:=w.drawn+1 }:=by obtain ⟨D,ow,μ,hw,hs⟩:=d;obtain ⟨U,V⟩:=hw.drawn (w.drawn+1);exact ⟨D,ow,μ,U,hs.mono V⟩
    exact wp_region_any hm (a1t hC hP hn (by grind) h O (λM st' H w' Y o=>U _ _ H w' Y (NoGd.sweep M) o.sweep) W a _ o)
 | seq x y ae af=>grind [exec,wp_seq,aa6,Exit.then]
 | cond c x y ae af=>
  intro hL K e st h Q U V X W a w d O
  unfold exec at h
  have ah:∀ z,z∈aa6 x->aai C z:=λb Z=>hL b (by simp [aa6,Z])
  have ai:∀ z,z∈aa6 y->aai C z:=λb Z=>hL b (by simp [aa6,Z])
  split at h
  ·rename_i t;split at h
   ·rename_i b Z;have ht:a.eval (.tmp t)=.bool b:=by
     obtain ⟨D,ow,μ,hw,hs⟩:=d;have:=hs.slot t;rw [Z] at this;show a.tmps.getD t Go.undef=_;generalize a.tmps.getD t Go.undef=v at this;cases this;rfl
    have aa:∀ b',b'=b->Rel Γ (e.set t (.bool b')) st a w:=by
     intro b' ak;obtain ⟨D,ow,μ,hw,hs⟩:=d;refine ⟨D,ow,μ,hw,hs.size,hs.defers,λt'=>?_⟩;unfold Env.set;cases aj:Nat.beq t' t with
     | true=>have:=Af aj;subst this;rw [ak];have:=hs.slot t';rwa [Z] at this
     | false=>exact hs.slot t'
    cases b with
    | true=>exact wp_cond_true ht (ae ah K _ st h Q U V X W a w (aa true rfl) (O.set t (by simp)))
    | false=>exact wp_cond_false ht (af ai K _ st h Q U V X W a w (aa false rfl) (O.set t (by simp)))
   ·simp at h
  ·rename_i b;cases b with
   | true=>exact wp_cond_true rfl (ae ah K e st h Q U V X W a w d O)
   | false=>exact wp_cond_false rfl (af ai K e st h Q U V X W a w d O)
  ·simp at h
 | block id z ih=>
  intro hL K e st h Q U V X W a w d O
  unfold exec at h
  refine wp_block (ih (λb Z=>hL b (by grind [aa6])) _ e st h (Exit.inBlock id Q) U (λi M st' H w' Y ab o=>?_) X W a w d O)
  show Exit.inBlock id Q (.exit i) H w'
  unfold Exit.inBlock
  by_cases hi:i=id
  ·subst hi;simp only [A6];simp only [Bg,Ad] at Y;grind
  ·simp only [hi,A7];have Z:Nat.beq i id=false:=by
    grind [Nat.beq,id,absurd,Nat.eq_of_beq_eq_true]
   grind
 | loop z _=>
  intro hL K e st h Q U V X W a w d O
  unfold exec at h
  obtain ⟨x,M,st',m,Y,ab,ad⟩:=hL z (by simp [aa6]) R e st _ r h
  unfold atl at ad
  rw [hP] at ad
  refine wp_loop_rounds m (ad Γ rfl hn al Q a w d O ?_)
  cases x with
  | exit i=>exact λH w' o=>V i _ _ _ _ Y ab o
  | ret=>exact λH w' o=>X _ _ _ _ Y ab o
  | pan=>exact λv H w' hp=>W _ _ v _ _ Y hp
 | exit id=>intro _ K e st h Q U V X W a w d O;exact wp_exit (V _ _ _ _ _ h O d)
 | ret=>intro _ K e st h Q U V X W a w d O;exact wp_ret (X _ _ _ _ h O d)
 | rangeFunc=>grind [exec]
 | scope=>grind [exec]
 | label=>grind [exec]
 | goto=>grind [exec]
 | refuse=>grind [exec]
theorem a06 {C:Cfg} (hC:aar C) {o:Code} (hL:∀ b,b∈aa6 o->aai C b) {R:Type}{r:R}{K:Ks R}{e:Env}{st:List BX} (h:exec C o K e st=some r) {x:LEx}{e':Env}{st':List BX}
 {m:Nat} (aa:∀ M d,K.norm M d=some r->NoGd M->atl C o m M d x e' st')
 (Z:∀ i M d,K.exit i M d=some r->NoGd M->x=.exit i/\∀ (Γ:Ctx) (a:Act) (w:World),Γ.P=C.P->Γ.np=C.np->Rel Γ M d a w->Rel Γ e' st' a w)
 (ae:∀ M d,K.ret M d=some r->NoGd M->x=.ret/\∀ (Γ:Ctx) (a:Act) (w:World),Γ.P=C.P->Γ.np=C.np->Rel Γ M d a w->Rel Γ e' st' a w)
 (ab:∀ s d,K.pan s d=some r->x=.pan/\∀ (Γ:Ctx) (v:Value) (a:Act) (w:World),Γ.P=C.P->Γ.np=C.np->PRel Γ s d v a w->PRel Γ (e' 0) st' v a w):atl C o (m+1) e st x e' st':=by
 intro Γ O Y H Q a w ad hg hQ
 rw [rounds_succ]
 have hw:o.wp Γ.P (Exit.then (Code.rounds C.P o Q m) Q) a w:=by
  refine aqb hC O.symm Y H r o hL K e st h (Exit.then (Code.rounds C.P o Q m) Q) (λM d W X hk U z=>?_) (λi M d W X hk U z=>?_) (λM d W X hk U z=>?_) (λs d v W X hk hp=>?_) a w ad hg
  ·exact aa M d hk U Γ O Y H Q W X z U hQ
  ·obtain ⟨rfl,V⟩:=Z i M d hk U;exact hQ W X (V Γ W X O H z)
  ·obtain ⟨rfl,V⟩:=ae M d hk U;exact hQ W X (V Γ W X O H z)
  ·obtain ⟨rfl,V⟩:=ab s d hk;exact hQ v W X (V Γ v W X O H hp)
 grind
end Go.Ab
namespace Go.Ab
open Go
section
variable {Γ:Ctx}{D:Dom}{ow:Own}{μ:Nat->Nat}{st:List BX}{w:World}
def owTo (ow:Own) (n:Nat):Own:=λb=>match ow b with | some k=>if k<n then some k else none | none=>none
theorem owTo_some {n b k:Nat}:owTo ow n b=some k ↔ ow b=some k/\k<n:=by unfold owTo;grind
def ain (D:Dom) (ow:Own) (μ:Nat->Nat) (st:List BX) (fz:List Nat):Dom:=λb o=>D b o\/∃ k d,k∈fz/\st[k]?=some d/\((∃ K E es,d=.map K E es)\/∃ E g xs,d=.arr E g xs)/\ow b=some k/\μ k=b
theorem alw {fz:List Nat}{b o:Nat} (h:ain D ow μ st fz b o):D b o\/∃ k,k∈fz/\ow b=some k/\∀ g,st[k]?≠some (.acc g):=by rcases h with h | ⟨k,d,m,z,H,M,O⟩;all_goals grind
theorem aio (fz:List Nat):Moves D w ow μ st (ain D ow μ st fz) w ow μ st:=by refine ⟨λ_ _ d=>Or.inl d,Keeps.refl _ _,λk T s e=>⟨rfl,s,e⟩,λk K E es e=>⟨rfl,es,e⟩,λk b e _=>⟨rfl,b,e,rfl⟩,λk E g xs e=>⟨g,xs,e,Nat.le_refl _,λ_=>⟨rfl,ArrKeep.refl _ _ _ _ _⟩⟩,λk g e=>⟨g,e,Nat.le_refl _,λ_ b m=>⟨rfl,m,λo d=>?_⟩⟩⟩;grind [alw,absurd]
theorem a4d {k g:Nat}{E:TypeId}{xs:List PV}{v:Value}{fz:List Nat} (hw:WRel Γ D ow μ st w) (h:SRep Γ.P D w ow μ st (.arr k g E) v) (O:aj4 st k g E=some xs) (W:k∈fz):SRep Γ.P (ain D ow μ st fz) w ow μ st (.slice E xs) v:=by
 have m:Moves D w ow μ st (ain D ow μ st fz) w ow μ st:=aio fz;have M:=aes O;cases h with
 | arrOld d z=>grind
 | arrNil d=>rw [M] at d;cases d;exact .slice (.nil λ_=>rfl)
 | @arr _ _ cap _ _ o d Z aa hc ho ab=>
  rw [M] at d;cases d;have H:xs.length*Γ.P.cellsOf E<=o.size/\∀ (i:Nat) (x:PV),xs[i]?=some x->Rep Γ.P D w E x ((o.toList.drop (i*Γ.P.cellsOf E)).take (Γ.P.cellsOf E)):=by rcases hw.obj k _ M with h0 | ⟨U,q1,q2,q3,q4,q5⟩;all_goals grind
  refine .slice (.mk (L:=o.toList.take (xs.length*Γ.P.cellsOf E)) Z (by simp;omega) (λi x X=>?_) (λj v Y=>?_))
  ·have V:(i+1)*Γ.P.cellsOf E<=xs.length*Γ.P.cellsOf E:=Au _ (by grind);rw [Nat.add_mul] at V;rw [List.drop_take,List.take_take,Nat.min_eq_left (by omega)];exact (H.2 i x X).mono m.dom m.keeps
  ·have z:j<xs.length*Γ.P.cellsOf E:=by grind
   rw [List.getElem?_take_of_lt z] at Y;refine ⟨Or.inr ⟨k,_,W,M,Or.inr ⟨E,g,xs,rfl⟩,ho,rfl⟩,?_⟩;grind [World.cell?]
theorem a3b {k:Nat}{s:SV}:∀ {fs:List SV}{i:Nat},fs[i]?=some s->k∈atu s->k∈a3a fs:=by
 intro fs;induction fs with
 | nil=>grind
 | cons x r d=>grind [a3a]
theorem a8v:∀ (fs:List SV) (i:Nat),(frzL st fs)[i]?=(fs[i]?).map (frzS st):=by
 intro fs;induction fs with
 | nil=>intro i;simp [frzL]
 | cons x r d=>grind [frzL]
theorem awr:∀ (fs:List SV),(frzL st fs).length=fs.length:=by
 intro fs;induction fs with
 | nil=>rfl
 | cons x r d=>simp [frzL,d]
theorem a0t {fz:List Nat} (hw:WRel Γ D ow μ st w) {s:SV}{v:Value} (h:SRep Γ.P D w ow μ st s v):(∀ k,k∈atu s->k∈fz)->SRep Γ.P (ain D ow μ st fz) w ow μ st (frzS st s) v:=by
 have m:Moves D w ow μ st (ain D ow μ st fz) w ow μ st:=aio fz;have H:∀ (k g:Nat) (E:TypeId) (v:Value),SRep Γ.P D w ow μ st (.arr k g E) v->k∈fz->SRep Γ.P (ain D ow μ st fz) w ow μ st (frzS st (.arr k g E)) v:=by
  intro k g E v h O;simp only [frzS];split
  ·grind [a4d]
  ·exact .undef
 induction h with
 | agg X Z ho hv hs ih=>intro O;simp only [frzS];refine .agg X Z ho (by grind [awr]) (λi x f V Y=>?_);rw [a8v] at V;obtain ⟨y,hy,rfl⟩:=Option.map_eq_some_iff.1 V;grind [atu,a3b]
 | arrOld d o z=>intro O;exact H _ _ _ _ (.arrOld d o z) (O _ (by simp [atu]))
 | arrNil d=>intro O;exact H _ _ _ _ (.arrNil d) (O _ (by simp [atu]))
 | arr d o z M U W=>intro O;exact H _ _ _ _ (.arr d o z M U W) (O _ (by simp [atu]))
 | undef=>intro _;exact .undef
 | bool=>intro _;exact .bool
 | int=>intro _;exact .int
 | str=>intro _;exact .str
 | slice h=>intro _;exact (SRep.slice h).mono m
 | data d o=>intro _;exact (SRep.data d o).mono m
 | map h=>intro _;exact (SRep.map h).mono m
 | nils=>intro _;exact .nils
 | acc d o z M=>intro _;exact (SRep.acc d o z M).mono m
 | ref d o=>intro _;exact .ref d o
 | mref d=>intro _;exact .mref d
 | iref d=>intro _;exact .iref d
 | bref d=>intro _;exact .bref d
 | nx d o=>intro _;exact .nx d o
 | eif d o=>intro _;exact .eif d o
 | pto d o=>intro _;exact (SRep.pto d o).mono m
 | fn d o z _=>intro _;exact (SRep.fn d o z).mono m
 | tup d o _=>intro _;exact (SRep.tup d o).mono m
 | raw=>intro _;exact .raw
 | lit h=>intro _;exact (SRep.lit h).mono m
 | arefOld d o z=>intro _;exact .arefOld d o z
 | aref d o z M U=>intro _;exact .aref d o z M U
 | eref d o z=>intro _;exact .eref d o z
 | asl d o z M=>intro _;exact .asl d o z M
 | ifc h _=>intro _;exact (SRep.ifc h).mono m
theorem axr {own:Bool}{T:TypeId}{s O:SV}{v:Value}{fz:List Nat} (M:WRel Γ D ow μ st w) (h:SRep Γ.P D w ow μ st s v) (d:bc1 Γ.P own st T s=some O) (H:∀ k,k∈frozen own [s]->k∈fz):SRep Γ.P (ain D ow μ st fz) w ow μ st O v:=by
 have m:Moves D w ow μ st (ain D ow μ st fz) w ow μ st:=aio fz;unfold bc1 at d;split at d
 ·rename_i k;split at d
  ·rename_i K E es o;simp only [Ak] at d;subst d;cases h;obtain ⟨ents,clock,kc,vc,V,W,r3,X,Y,Z,r7⟩:=M.map k K E es o;exact .map (.mk kc vc V (Or.inr ⟨k,_,H k (by simp [frozen]),o,Or.inl ⟨K,E,es,rfl⟩,W,rfl⟩) X (λi x a=>(Y i x a).mono m.dom m.keeps) (λi x a=>(Z i x a).mono m.dom m.keeps) r7)
  ·simp at d
 ·rename_i k g E;cases own with
  | true=>simp only [Ad,Ak] at d;subst d;exact h.mono m
  | false=>simp only [Ae] at d;grind [Option.some.injEq,a4d,frozen]
 ·simp at d
 ·simp only [Ak] at d;subst d;exact h.mono m
 ·simp only [Ak] at d;subst d;exact h.mono m
 ·rename_i T' fs;cases own with
  | true=>
   simp only [Ad] at d;split at d
   ·rename_i x z;simp only [Ak] at d;subst d;exact (adk (h.mono m) z) _ _ _
   ·simp only [Ak] at d;subst d;exact h.mono m
  | false=>
   simp only [Ae] at d;have U:=a0t (fz:=fz) M h (λk o=>H k (by grind [atu,frozen]));split at d
   ·rename_i x z;simp only [Ak] at d;subst d;exact (adk U z) _ _ _
   grind
 ·exact (adk (h.mono m) d) _ _ _
theorem ass {own:Bool}{fz:List Nat} (Y:WRel Γ D ow μ st w):∀ (ts:List TypeId) (ss d:List SV),ajw Γ.P own st ts ss=some d->(∀ k,k∈frozen own ss->k∈fz)->∀ (o:List Value),(∀ (i:Nat) (s:SV) (v:Value),ss[i]?=some s->o[i]?=some v->SRep Γ.P D w ow μ st s v)->
 d.length=ss.length/\∀ (i:Nat) (s:SV) (v:Value),d[i]?=some s->o[i]?=some v->SRep Γ.P (ain D ow μ st fz) w ow μ st s v:=by
 intro ts
 induction ts with
 | nil=>
  intro ss d h H o m
  cases ss with
  | nil=>simp [ajw] at h;grind
  | cons=>simp [ajw] at h
 | cons T ts ih=>
  intro ss d h H o m
  cases ss with
  | nil=>simp [ajw] at h
  | cons s ss=>
   simp only [ajw] at h
   split at h
   ·rename_i x q Z X;simp only [Ak] at h;subst h;have M:∀ k,k∈frozen own [s]->k∈fz:=λk W=>H k (by cases own<;>cases s<;>simp_all [frozen]);have O:∀ k,k∈frozen own ss->k∈fz:=λk W=>H k (by cases own<;>cases s<;>simp_all [frozen]);obtain ⟨V,h2⟩:=ih ss q X O o.tail (λi s v z U=>m (i+1) s v (by simpa using z) (by simpa using U));refine ⟨by simp [V],λi y v z U=>?_⟩;cases i with
    | zero=>simp at z;subst z;exact axr Y (m 0 s v (by simp) U) Z M
    | succ i=>grind
   ·cases h
theorem au5 (hw:WRel Γ D ow μ st w) {e:Env}{a:Act} (hs:Slots Γ D ow μ e st a w):∀ (rs:List ResultVar) (z:List SV),au4 Γ.P e st rs=some z->
 ∃ O:List Value,(rs.mapM λr=>(match r with | .tmp t=>pure (a.tmps.getD t Go.undef) | .cell x t=>do loadVar t (<-asAddr (a.tmps.getD x Go.undef)):Sem Value)).run Γ.P w=.ok O w/\O.length=z.length/\
  ∀ (i:Nat) (s:SV) (v:Value),z[i]?=some s->O[i]?=some v->SRep Γ.P D w ow μ st s v:=by
 intro rs
 induction rs with
 | nil=>intro z h;simp [au4] at h;simp_all
 | cons r rr ih=>
  intro z h
  unfold au4 at h
  split at h
  ·rename_i x q o hq;simp only [Ak] at h;subst h;obtain ⟨O,Z,h2,h3⟩:=ih q hq;have M:∃ v,(match r with | .tmp t=>pure (a.tmps.getD t Go.undef) | .cell x t=>do loadVar t (<-asAddr (a.tmps.getD x Go.undef)):Sem Value).run Γ.P w=.ok v w/\SRep Γ.P D w ow μ st x v:=by
    unfold bbo at o;split at o
    ·rename_i t;refine ⟨a.tmps.getD t Go.undef,by simp,?_⟩;have m:=hs.slot t;split at o
     ·cases o
     ·rename_i ae;simp only [Ak] at o;subst o;cases X:e t with
      | gd u aa y=>all_goals grind
      | _=>rw [X] at m;exact m
    ·rename_i t U;split at o
     ·rename_i k W X;cases V:(Nat.beq U W&&(Γ.P.underlying U).isSome&&(aak Γ.P U||Nat.beq (Γ.P.cellsOf U) 1)) with
      | false=>all_goals grind
      | true=>
       rw [V] at o;simp only [Ad] at o;simp only [Ai,Bd] at V;have:=Af V.1.1;subst this;split at o
       ·rename_i TB s hk;simp only [Ak] at o;subst o;have m:=hs.slot t;rw [X] at m;simp only [SlotRep] at m;generalize ad:a.tmps.getD t Go.undef=av at m;cases m with
        | @ref _ _ _ ab s' off H hp=>
         rw [hk] at H;cases H;simp only [ab6,Ak,Prod.mk.injEq] at hp;obtain ⟨rfl,rfl⟩:=hp;obtain ⟨d,T2,q1,Y,q3,q4,q5⟩:=hw.box k _ s hk;refine ⟨pack Γ.P TB d,?_,q5⟩;have hl:=aee V.1.2 w (μ k) 0 d (λj v hj=>by all_goals grind [World.cell?]) (λ_=>Y) (λha=>by
          have Z:Γ.P.cellsOf TB=1:=by all_goals grind [Nat.eq_of_beq_eq_true]
          rw [Z] at Y;match d,Y with
          | [u],_=>all_goals grind)
         all_goals grind [asAddr,Sem.run_bind,Sem.run_pure,Result.andThen_ok]
       ·simp at o
     ·simp at o
   obtain ⟨v,af,ag⟩:=M;refine ⟨v::O,?_,by simp [h2],λi s u hi hu=>?_⟩;all_goals grind [Sem.run_bind,Result.andThen_ok,Sem.run_pure]
  ·simp at h
theorem Objs.more {P:Program}{D':Dom} (h:Objs P D ow μ st w) (Z:∀ b o,D b o->D' b o) (X:∀ b o,D' b o->D b o\/(ow b=none/\b<w.heap.size)):Objs P D' ow μ st w:=by
 have z:∀ b k,ow b=some k->∀ o,D' b o->D b o:=λb k M o d=>(X b o d).resolve_right (λhh=>by grind);have m:Moves D w ow μ st D' w ow μ st:=⟨Z,Keeps.refl _ _,λk T s e=>⟨rfl,s,e⟩,λk K E es e=>⟨rfl,es,e⟩,λk b e _=>⟨rfl,b,e,rfl⟩,λk E g xs e=>⟨g,xs,e,Nat.le_refl _,λ_=>⟨rfl,ArrKeep.refl _ _ _ _ _⟩⟩,λk g e=>⟨g,e,Nat.le_refl _,λ_ b M=>⟨rfl,M,z b k M⟩⟩⟩;refine ⟨λk b hk=>?_,h.owlt,λb o d=>?_,λb k x M e hx o d=>h.lone b k x M e hx o (z b k M o d)⟩
 ·have O:=h.obj k b hk;cases b with
  | box T s=>obtain ⟨c,Y,W,U,V,q4,q5⟩:=O;exact ⟨c,Y,W,U,V,λo d=>q4 o (z _ k V o d),q5.mono m⟩
  | map K E es=>obtain ⟨ents,clock,kc,vc,W,U,V⟩:=O;exact OMapRep.mono ⟨ents,clock,kc,vc,W,U,V⟩ m.dom m.keeps rfl rfl U (λo d=>V.1 o (z _ k U o d))
  | acc g=>trivial
  | hole=>trivial
  | iter s p=>exact ObjRep.mono (P:=P) (b:=.iter s p) O m.dom m.keeps (λ_=>rfl) (λc H=>⟨rfl,H,z c k H⟩)
  | bld T bs=>exact ObjRep.mono (P:=P) (b:=.bld T bs) O m.dom m.keeps (λ_=>rfl) (λc H=>⟨rfl,H,z c k H⟩)
  | arr E g xs=>exact ObjRep.mono (P:=P) (b:=.arr E g xs) O m.dom m.keeps (λ_=>rfl) (λc H=>⟨rfl,H,z c k H⟩)
 ·rcases X b o d with d | d
  ·exact h.dlt b o d
  ·exact d.2
theorem a0o (hw:WRel Γ D ow μ st w) {e:Env}{a:Act} (hs:Slots Γ D ow μ e st a w) {ts:List TypeId}{rs:List ResultVar}{Z:List SV}{sub:List BX}{own:Bool} (h:arl Γ.P own e st Γ.np ts rs=some (Z,sub)):
 ∃ O:List Value,(rs.mapM λr=>(match r with | .tmp t=>pure (a.tmps.getD t Go.undef) | .cell x t=>do loadVar t (<-asAddr (a.tmps.getD x Go.undef)):Sem Value)).run Γ.P w=.ok O w/\
  ∃ (D':Dom) (ks:List Nat),ks.Nodup/\(∃ r,ks=List.range Γ.np++r)/\ajc st (adf ks) (ajo st) ks=some sub/\(∀ b o,D b o->D' b o)/\(∀ b o,D' b o->D b o\/∃ k,ow b=some k/\Γ.np<=k)/\
   Objs Γ.P D' (agh ow ks) (λj=>μ (ks.getD j 0)) sub w/\SRep Γ.P D' w (agh ow ks) (λj=>μ (ks.getD j 0)) sub (ad2 Z) (if h:O.toArray.size=1 then O.toArray[0] else .tuple O.toArray):=by
 unfold arl at h
 split at h
 ·cases h
 ·rename_i z Y;split at h
  ·cases h
  ·rename_i m V;obtain ⟨O,h1,h2,h3⟩:=au5 hw hs rs z Y;cases aa:(frozen own z).all (λk=>!((af6 st Γ.np m).any (Nat.beq k))) with
   | false=>grind
   | true=>
    rw [aa] at h;simp only [Ad] at h;split at h
    ·rename_i af ad hr H;simp only [Ak,Prod.mk.injEq] at h;obtain ⟨rfl,rfl⟩:=h;have hn:=al2 st Γ.np m;obtain ⟨r,X⟩:=akb st Γ.np m;generalize af6 st Γ.np m=ks at*;have W:∀ k,k∈frozen own z->k∉ks:=by
      grind [List.all_eq_true,Nat.beq,List.any_eq_true,Nat.beq_refl]
     obtain ⟨l1,l2⟩:=ass (fz:=frozen own z) hw ts z m V (λk hk=>hk) O h3;have U:∀ b k,k∉ks->ow b=some k->agh ow ks b=none:=λb k hk ob=>aln (λk' ae e=>by grind);refine ⟨O,h1,ain D ow μ st (frozen own z),ks,hn,⟨r,X⟩,H,λ_ _ d=>Or.inl d,λb o d=>?_,?_,?_⟩
     ·grind [alw,Nat.lt_or_ge,absurd]
     ·refine (hw.objs.sub hn H).more (λ_ _ d=>Or.inl d) (λb o d=>?_);rcases alw d with d | ⟨k,k1,k2,k3⟩
      ·exact Or.inl d
      ·exact Or.inr ⟨U b k (W k k1) k2,(hw.owlt b k k2).1⟩
     ·refine au8 (Emb.sub hn H) ?_ hr;by_cases M:O.length=1
      ·obtain ⟨v,rfl⟩:=List.length_eq_one_iff.1 M;obtain ⟨s,rfl⟩:=List.length_eq_one_iff.1 (show m.length=1 by omega);simpa [ad2] using l2 0 s v rfl rfl
      ·have ab:m.length≠1:=by omega
       have hr:ad2 m=.tup m:=by
        match m,ab with
        | [],_=>rfl
        | [x],h2=>grind
        | x::y::r,_=>rfl
       rw [hr,dif_neg (by simpa using M)];exact .tup (by simp;omega) (λi s v hi hv=>l2 i s v hi (by simpa using hv))
    ·cases h
end
theorem ajn {C:Cfg} (hC:aar C) {f:FuncId}{fn:Func}{c:Code} (hf:C.P.funcs[f]?=some fn) (hb:fn.body=some c) (hn:fn.ntmps=C.n) (al:(fn.name== "runtime.NumGoroutine")=false) (hL:∀ ai,ai∈aa6 c->aai C ai)
 {R:Type}{as:List SV}{st:List BX}{K:List SV->List BX->Option R}{r:R}{Z:List SV}{ah:List BX} (h:aua C fn as st K=some r) (aF:as.length<=C.n) (ax:st.length=C.np)
 (hK:∀ rs s,K rs s=some r->∀ (D:Dom) (w:World) (ow:Own) (μ:Nat->Nat) (v:Value) (D':Dom) (w':World),Post C.P D w ow μ st rs s v D' w'->Post C.P D w ow μ st Z ah v D' w'/\ahw Z v=ahw rs v):Meets C.P f as st Z ah:=by
 refine ⟨aa5 hf al (by rw [hb];rfl),λD ow μ w z H=>?_⟩
 unfold aua at h
 rw [hb] at h
 simp only at h
 refine calls_of_wp hf hb ?_
 let Γ:Ctx:={ P:=C.P,n:=C.n,B:=w.heap.size,w0:=w,D0:=D,ow0:=ow,np:=st.length,μ0:=μ,K0:=λk=>match st[k]? with | some b=>b.kind | none=>[],L0:=λk=>match st[k]? with | some (.arr _ _ xs)=>xs.length | _=>0,hB:=rfl,tabs:=H.tabs }
 have hw:WRel Γ D ow μ st w:=by
  refine ⟨λk T s e=>H.objs.obj k _ e,λk K E es e=>H.objs.obj k _ e,λk b e=>?_,H.objs.owlt,H.objs.dlt,rfl,rfl,rfl,Nat.le_refl _,λ_ _ _=>rfl,λ_ _ d=>d,λ_ _ d=>Or.inl d,λ_ _ h _=>h,Nat.le_refl _,λ_ _ _=>rfl,λk Y=>?_,H.objs.lone,Keeps.refl _ _,λk Y E xs e=>⟨?_,ArrKeep.refl _ _ _ _ _⟩⟩
  ·have h0:=H.objs.obj k b e;cases b with
   | box T s=>trivial
   | map K E es=>trivial
   | acc g=>trivial
   | hole=>trivial
   | _=>exact h0
  ·have aG:st[k]?=some st[k]:=An Y;grind
  grind
 have az:Slots Γ D ow μ (ap0 as) st { tmps:=z++Array.replicate (fn.ntmps-z.size) Go.undef,defers:=[] } w:=by
  refine ⟨by show (z++_).size=C.n;have:=H.size;simp;omega,rfl,λt=>?_⟩;unfold ap0;by_cases ht:t<as.length
  ·have h1:as[t]?=some as[t]:=An ht;have am:t<z.size:=by rw [H.size];exact ht
   have h2:z[t]?=some z[t]:=Array.getElem?_eq_getElem am;have e1:as.getD t .undef=as[t]:=by grind
   have e2:(z++Array.replicate (fn.ntmps-z.size) Go.undef).getD t Go.undef=z[t]:=by
    have e:∀ (x:Array Value),x.getD t Go.undef=(x[t]?).getD Go.undef:=λx=>by simp
    grind
   show SlotRep _ _ _ _ _ _ _ (as.getD t .undef) ((z++Array.replicate (fn.ntmps-z.size) Go.undef).getD t Go.undef);rw [e1,e2];exact (H.arg t _ _ h1 h2).slot
  ·have e1:as.getD t .undef=.undef:=by grind
   rw [e1];exact .undef
 have aw:NoGd (ap0 as):=by
  intro t u aE x he;unfold ap0 at he;by_cases ht:t<as.length
  ·have h1:as[t]?=some as[t]:=An ht;have am:t<z.size:=by rw [H.size];exact ht
   have:=H.arg t _ _ h1 (Array.getElem?_eq_getElem am);have e1:as.getD t .undef=as[t]:=by grind
   rw [e1] at he;rw [he] at this;cases this
  grind
 have aq:∀ (rs:List SV) (s':List BX) (v:Value) (w':World) (D1 D':Dom) (V:Own) (W:Nat->Nat) (st':List BX) (ks r':List Nat),K rs s'=some r->WRel Γ D1 V W st' w'->ks.Nodup->ks=List.range st.length++r'->ajc st' (adf ks) (ajo st') ks=some s'->
  (∀ b o,D1 b o->D' b o)->(∀ b o,D' b o->D1 b o\/∃ k,V b=some k/\st.length<=k)->Objs C.P D' (agh V ks) (λj=>W (ks.getD j 0)) s' w'->ahc C.P D' w' (agh V ks) (λj=>W (ks.getD j 0)) s' rs v->
  Post C.P D w ow μ st Z ah v D' w'/\ahw Z v=ahw rs v:=by
  intro rs s' v w' D1 D' V W st' ks r' Y m ag ad X hD hN ab U
  have ae:∀ k,k<st.length->ks[k]?=some k:=by grind
  obtain ⟨l1,l2⟩:=ai7 ks s' X
  refine hK rs s' Y D w ow μ _ D' w' ⟨λb o d=>hD b o (m.dom0 b o d),λb o d=>?_,⟨agh V ks,λj=>W (ks.getD j 0),ab,U,λb j hb ak=>?_,λk b aj=>?_,λk E g xs ys aj af=>?_⟩,m.os,m.tape,m.output,m.hs,m.old,m.keep0⟩
  ·rcases hN b o d with d | ⟨k,k1,k2⟩
   ·exact m.domN b o d
   ·rcases Nat.lt_or_ge b w.heap.size with ak | aH
    ·have h0:=m.owN b k k1 ak;grind
    grind
  ·obtain ⟨k,hj,ay⟩:=aey hb;have h0:=m.owN b k ay ak;have O:=(H.objs.owlt b k h0).2;grind [aom]
  ·have O:=(A4.1 aj).1;obtain ⟨x,hx,p1⟩:=m.par k O;obtain ⟨b1,b2,q1,q2,q3⟩:=l2 k k (ae k O);rw [hx] at q1;cases q1;have hK:Γ.K0 k=b.kind:=by grind
   refine ⟨b2,q3,(acn q2).1.trans (p1.trans hK),λ_ aC=>?_⟩;have e:ks.getD k 0=k:=by grind
   show W (ks.getD k 0)=μ k;rw [e];refine m.mu0 k O (λE hE=>?_);rw [hK] at hE;obtain ⟨g,xs,rfl⟩:=aiw hE;grind
  ·have O:=(A4.1 aj).1;obtain ⟨b1,b2,q1,q2,q3⟩:=l2 k k (ae k O);rw [af] at q3;cases q3;obtain ⟨g1,zs,rfl⟩:=aiw (acn q2).1.symm;have aA:=(acn q2).2.2 _ _ _ rfl;have aD:ajo st' k=(bif Nat.beq g1 0 then 0 else 1):=by grind [ajo]
   injection aA with _ q4 q5;subst q5;have av:g1=0:=by grind [Nat.beq,Nat.eq_of_beq_eq_true]
   subst av;obtain ⟨r1,r2⟩:=m.arr0 k O E ys q1;have hL:Γ.L0 k=xs.length:=by grind
   refine ⟨r1.trans hL,λau hc ho=>?_⟩;obtain ⟨t1,t2,aB,t3,t4⟩:=r2 au hc ho;grind [List.getD,ash]
 have an:∀ e' st' a' w',(match arl C.P C.own e' st' st.length fn.resultTypes.toList fn.results.toList with | some (rs,s')=>K rs s' | none=>none)=some r->Rel Γ e' st' a' w'->
  a'.defers=[]/\∃ v,(results fn a'.tmps).run C.P w'=.ok v w'/\∃ ar D',Ending.returned v=ahw Z ar/\Post C.P D w ow μ st Z ah ar D' w':=by
  intro e' st' a' w' Y aa
  obtain ⟨D1,V,W,m,af⟩:=aa
  split at Y
  ·rename_i rs s' M;obtain ⟨vs,h1,D',ks,ag,⟨r',ad⟩,X,hD,hN,ab,U⟩:=a0o m af M;obtain ⟨U,ap⟩:=aic U;obtain ⟨hp,he⟩:=aq rs s' _ w' D1 D' V W st' ks r' Y m ag ad X hD hN ab U;refine ⟨af.defers,if h:vs.toArray.size=1 then vs.toArray[0] else .tuple vs.toArray,?_,_,D',(he.trans ap).symm,hp⟩;unfold results;rw [Sem.run_bind,Array.mapM_eq_mapM_toList,Sem.run_map];exact congrArg (λr:Result (List Value)=>(r.andThen λa w'=>Result.ok a.toArray w').andThen λa w'=>Sem.run C.P (pure (if h:a.size=1 then a[0] else Value.tuple a)) w') (h1:_=_)
  ·simp at Y
 have M:=aqb (Γ:=Γ) hC rfl rfl ax r c hL _ (ap0 as) st h (bodyPost C.P fn (λe w'=>∃ v D',e=ahw Z v/\Post C.P D w ow μ st Z ah v D' w'))
  (λe' st' a' w' Y _ aa=>an e' st' a' w' Y aa) (λi e' st' a' w' Y _ _=>by simp at Y) (λe' st' a' w' Y _ aa=>an e' st' a' w' Y aa) (λs st' v a' w' Y hp=>?_) _ w ⟨D,ow,μ,hw,az⟩ aw
 ·exact M
 obtain ⟨ao,D1,V,W,m,af⟩:=hp
 refine ⟨ao,?_⟩
 simp only at Y
 split at Y
 ·rename_i rs s' M;unfold a3y at M;split at M
  ·rename_i T x;split at M
   ·rename_i x' sub hc X;simp only [Ak,Prod.mk.injEq] at M;obtain ⟨rfl,rfl⟩:=M;have ag:=al2 st' st.length [];obtain ⟨r',ad⟩:=akb st' st.length [];have U:ahc C.P D1 w' (agh V (af6 st' st.length [])) (λj=>W ((af6 st' st.length []).getD j 0)) sub [.pan (.ifc T x')] v:=by
     cases af with
     | ifc hu=>exact .ifc (adk hu hc _ _ _)
    obtain ⟨hp,he⟩:=aq _ _ v w' D1 D1 V W st' _ r' Y m ag ad X (λ_ _ d=>d) (λ_ _ d=>Or.inl d) (m.objs.sub ag X) U;exact ⟨v,D1,he.symm,hp⟩
   ·cases M
  ·cases M
 ·cases Y
end Go.Ab
