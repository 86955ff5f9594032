/- One operation of a region, whatever its order. -/
import Derived.Test.YtcpkdafleaddlaaGreatDoorAbExec
set_option linter.unusedVariables false
set_option linter.unusedSimpArgs false
set_option linter.unnecessarySimpa false
namespace Go.Ab
open Go
def ρT (e:Env) (gs:List (Nat×Bool)) (d:Op) (w:Bool):Operand->SV:=match d with | .pick (.tmp u) _ _=>opd e ((u,w)::gs) | _=>opd e []
inductive StepV (C:Cfg) (ops:Array Oper) (o:Oper) (e:Env) (st:List BX):SV->List BX->Prop
 | val {v:SV}:o.guard=none->ac C.P o.op (opd e []) (ρT e [] o.op true) (ρT e [] o.op false) st=.val true v->StepV C ops o e st v st
 | upd {v:SV}{st':List BX}:o.guard=none->ac C.P o.op (opd e []) (ρT e [] o.op true) (ρT e [] o.op false) st=.upd true v st'->StepV C ops o e st v st'
 | call {f:FuncId}{args as rs rs':List SV}{sub sub' bs:List BX}:o.guard=none->ac C.P o.op (opd e []) (ρT e [] o.op true) (ρT e [] o.op false) st=.call f args->
  renL st (adf (aa3 st args)) (λ_=>0) args=some as->ajc st (adf (aa3 st args)) (λ_=>0) (aa3 st args)=some sub->Meets C.P f as sub rs sub'->agt st (aa3 st args) rs sub'=some (rs',bs)->(∀ s,rs'≠[.pan s])->StepV C ops o e st (ad2 rs') (ab8 (aa3 st args) bs st)
 | gval {j t:Nat}{want b c:Bool}{v:SV}:o.guard=some (j,want)->(ops[j]?).bind (·.dst)=some t->gval e 8 t want=some b->
  ac C.P o.op (opd e [(t,want)]) (ρT e [(t,want)] o.op true) (ρT e [(t,want)] o.op false) st=.val c v->imp b c=true->StepV C ops o e st (.gd t want v) st
 | gcall {j t:Nat}{want b:Bool}{f:FuncId}{args as rs':List SV}:o.guard=some (j,want)->(ops[j]?).bind (·.dst)=some t->gval e 8 t want=some b->
  ac C.P o.op (opd e [(t,want)]) (ρT e [(t,want)] o.op true) (ρT e [(t,want)] o.op false) st=.call f args->aa3 st args=[]->renL st (adf []) (λ_=>0) args=some as->
  (b=true->∃ rs sub',Meets C.P f as [] rs sub'/\aho rs sub'=some rs')->(∀ s,rs'≠[.pan s])->StepV C ops o e st (.gd t want (ad2 rs')) st
def bb2 (C:Cfg) (o:Oper) (e:Env) (st:List BX) (s:SV) (st':List BX):Prop:=
 o.guard=none/\∃ f args m rs sub d bs,ac C.P o.op (opd e []) (ρT e [] o.op true) (ρT e [] o.op false) st=.call f args/\renL st (adf (aa3 st args)) (λ_=>0) args=some m/\ajc st (adf (aa3 st args)) (λ_=>0) (aa3 st args)=some sub/\
  Meets C.P f m sub rs d/\agt st (aa3 st args) rs d=some ([.pan s],bs)/\st'=ab8 (aa3 st args) bs st
theorem azc {R:Type}{C:Cfg} (hC:aar C) {ops:Array Oper}{o:Oper}{e:Env}{st:List BX}{K X:SV->List BX->Option R}{r:R} (h:opV C ops o e st K X=some r):(∃ v st',StepV C ops o e st v st'/\K v st'=some r)\/∃ s st',bb2 C o e st s st'/\X s st'=some r:=by
 unfold opV at h;split at h
 ·rename_i V;split at h
  ·cases h
  ·rename_i c v d;cases c with
   | false=>cases h
   | true=>exact Or.inl ⟨v,st,.val V d,h⟩
  ·rename_i c v st' d;cases c with
   | false=>cases h
   | true=>exact Or.inl ⟨v,st',.upd V d,h⟩
  ·cases h
  ·rename_i f args d;split at h
   ·rename_i as sub M W;obtain ⟨rs,U,z,hm⟩:=(hC R true f as sub _ r h).1 rfl;split at z;case h_2=>cases z
    rename_i aa bs m;rcases aev z with ⟨s,rfl,z⟩ | ⟨O,z⟩
    ·exact Or.inr ⟨s,_,⟨V,f,args,as,rs,sub,U,bs,d,M,W,hm,m,rfl⟩,z⟩
    ·exact Or.inl ⟨_,_,.call V d M W hm m O,z⟩
   ·cases h
 ·rename_i j ad V;split at h
  ·cases h
  ·rename_i t ht;split at h
   ·cases h
   ·rename_i b Y;split at h
    ·rename_i c v d;cases hi:imp b c with
     | false=>grind
     | true=>rw [hi] at h;exact Or.inl ⟨_,_,.gval V ht Y d hi,h⟩
    ·rename_i f args d;split at h
     ·rename_i as Z M;obtain ⟨h1,ae,ab,H⟩:=hC R b f as [] _ r h;cases b with
      | true=>
       obtain ⟨rs,U,z,hm⟩:=h1 rfl;split at z;case h_2=>cases z
       rename_i aa m;obtain ⟨O,z⟩:=ah1 z;exact Or.inl ⟨_,_,.gcall V ht Y d Z M (λ_=>⟨rs,U,hm,m⟩) O,z⟩
      | false=>
       split at H;case h_2=>cases H
       obtain ⟨O,H⟩:=ah1 H;exact Or.inl ⟨_,_,.gcall V ht Y d Z M (λY=>by cases Y) O,H⟩
     ·cases h
    ·cases h
theorem az3 {P:Program}{st:List BX}{T:TypeId}{x y:SV}{c:Bool}{v:SV}:ads P st T x y≠.val c v:=by intro h;unfold ads at h;grind
theorem av2 {P:Program}{st:List BX}{T:TypeId}{x y:SV}{f:FuncId}{d:List SV}:ads P st T x y≠.call f d:=by intro h;unfold ads at h;grind
theorem a7b {P:Program}{st:List BX}{T:TypeId}{x y:SV}{c:Bool}{v:SV}:aei P T st x y≠.val c v:=by intro h;unfold aei at h;grind
theorem akq {P:Program}{st:List BX}{T:TypeId}{x y z:SV}{c:Bool}{v:SV}:abv P T st x y z≠.val c v:=by intro h;unfold abv at h;grind
theorem aw5 {P:Program}{st:List BX}{T:TypeId}{r:Option Operand}{c:Bool}{v:SV}:aea P T r st≠.val c v:=by intro h;unfold aea at h;grind
theorem ajl {P:Program}{H:Op}{o ρt ρf:Operand->SV}{st:List BX}{m:Nat}{c:Bool}{v:SV} (h:ac P H o ρt ρf (st.take m)=.val c v):ac P H o ρt ρf st=.val c v:=by
 have O:∀ (k:Nat) (b:BX),(st.take m)[k]?=some b->st[k]?=some b:=by grind
 have W:∀ (k g:Nat) (E:TypeId) (xs:List PV),aj4 (st.take m) k g E=some xs->aj4 st k g E=some xs:=by grind [aj4]
 have X:∀ (k g:Nat),ags (st.take m) k g=true->ags st k g=true:=by grind [ags]
 cases H with
 | nilCheck x=>grind [ac,ags]
 | fieldAddr S x i=>
  simp only [ac,acu] at h ⊢;generalize o x=y at h ⊢;cases y with
  | aref k g j E p T=>grind
  | _=>exact h
 | indexAddr T x i=>
  simp only [ac,acv] at h ⊢;cases V:ani P T (o x) (o i) with
  | some r=>grind
  | none=>
   rw [V] at h;simp only at h ⊢;cases z:ag7 P T (st.take m) (o x) (o i) with
   | some r=>
    rw [z] at h;have:ag7 P T st (o x) (o i)=some r:=by unfold ag7 at z ⊢;grind
    grind
   | none=>
    rw [z] at h;simp only at h;have:ag7 P T st (o x) (o i)=none:=by unfold ag7;grind [aqf]
    grind
 | load T a=>
  simp only [ac,adb] at h ⊢;generalize o a=x at h ⊢;cases x with
  | ref k path U=>grind
  | eref k i E=>grind
  | aref k g i E path U=>grind
  | _=>exact h
 | convert s d x=>simp only [ac] at h ⊢;unfold afd at h ⊢;grind
 | lookup T x k ok=>
  simp only [ac] at h ⊢;unfold afi at h ⊢;cases M:P.underlying T with
  | none=>grind
  | some d=>
   cases d with
   | map K E=>grind
   | _=>rw [M] at h;cases h
 | call Y=>
  simp only [ac] at h ⊢;unfold aj6 at h ⊢;split at h
  ·cases h
  ·all_goals grind
  ·split at h
   ·rename_i x T Z M;unfold ar2 at h ⊢;generalize o x=y at h ⊢;generalize P.underlying T=u at h ⊢;cases u with
    | none=>cases h
    | some d=>all_goals grind
   ·cases h
  all_goals grind [Nat.beq,absurd,az3]
 | store T a x=>exact absurd h a7b
 | insert T a k x=>exact absurd h akq
 | mapUpdate T a k x=>exact absurd h akq
 | makeMap T r=>exact absurd h aw5
 | range T x=>simp only [ac] at h;unfold ajs at h;grind
 | next x b=>simp only [ac] at h;unfold aol at h;grind
 | alloc T=>simp only [ac,ahn] at h;grind
 | box T x=>simp only [ac,aty,Av] at h;grind
 | makeSlice T n c=>simp only [ac,adm,ae4,Av] at h;grind
 | _=>exact h
theorem awb {d:Call}{m:Operand->SV}{P:Program}{st st':List BX}{f:FuncId}{args:List SV} (h:aj6 d m P st=.call f args):aj6 d m P st'=.call f args:=by
 unfold aj6 at h ⊢;split at h
 ·exact h
 ·exact h
 ·exfalso;split at h
  ·unfold ar2 at h;all_goals grind
  ·cases h
 ·exfalso;split at h
  ·rename_i x y T o _ _;cases z:Nat.beq T o with
   | false=>all_goals grind
   | true=>rw [z] at h;simp only [Ad] at h;exact absurd h av2
  ·cases h
 all_goals grind
theorem azd {R:Type}{C:Cfg} (hC:aar C) {ops:Array Oper}{o:Oper}{e:Env}{s0:List BX}{K:SV->Option R}{r:R} (h:opW C ops o e s0 K=some r):∃ v,(∀ (st:List BX) (m:Nat),st.take m=s0->StepV C ops o e st v st)/\K v=some r:=by
 have aa:∀ {ρ ρt ρf:Operand->SV}{f:FuncId}{args:List SV},an4 o.op=true->ac C.P o.op ρ ρt ρf s0=.call f args->∀ st,ac C.P o.op ρ ρt ρf st=.call f args:=by
  intro ρ ρt ρf f args H ha st;unfold an4 at H;split at H
  ·rename_i cl ad;rw [ad] at ha ⊢;exact awb ha
  ·cases H
 unfold opW at h;split at h
 ·rename_i hg;split at h
  ·rename_i c v d;cases c with
   | false=>cases h
   | true=>exact ⟨v,λst m hs=>by subst hs;exact .val hg (ajl d),h⟩
  ·rename_i f args d;cases H:an4 o.op with
   | false=>grind
   | true=>
    rw [H] at h;simp only [Ad] at h;split at h
    ·rename_i as W ab;obtain ⟨rs,ae,U,hm⟩:=(hC R true f as [] _ r h).1 rfl;split at U;case h_2=>cases U
     rename_i ag V;obtain ⟨X,U⟩:=ah1 U;refine ⟨_,λst m _=>?_,U⟩;have O:=ami (st':=st) W;have:=StepV.call (ops:=ops) (e:=e) (st:=st) (sub:=[]) hg (aa H d st) (by grind [aib]) (by rw [O];rfl) hm (by rw [O];exact ahp V st) X;grind [ab8]
    ·cases h
  ·cases h
 ·rename_i j af hg;cases H:an4 o.op with
  | true=>
   rw [H] at h;simp only [Ad] at h;obtain ⟨v,st',hs,U⟩:∃ v st',StepV C ops o e s0 v st'/\K v=some r:=by grind [azc]
   refine ⟨v,λst m Y=>?_,U⟩;subst Y;cases hs with
   | val z=>grind
   | upd z=>grind
   | call z=>grind
   | gval z ht Z d M=>exact .gval z ht Z (ajl d) M
   | gcall z ht Z d W ab hm X=>exact .gcall z ht Z (aa H d st) (ami W) (by grind [aib,List.take]) hm X
  | false=>
   rw [H] at h;simp only [Ae] at h;split at h
   ·cases h
   ·rename_i t ht;split at h
    ·cases h
    ·rename_i b Z;split at h
     ·rename_i c v d;cases M:imp b c with
      | false=>grind
      | true=>rw [M] at h;exact ⟨_,λst m Y=>by subst Y;exact .gval hg ht Z (ajl d) M,h⟩
     ·cases h
section
variable {Γ:Ctx}
theorem atd {D:Dom}{ow:Own}{μ:Nat->Nat}{e:Env}{st st':List BX}{a:Act}{w:World}{C:Cfg} (hn:Γ.n=C.n) (hs:Slots Γ D ow μ e st a w) {o:Oper} (Z:apk C.n o.dst=true) (Y:∀ d,o.dst=some d->azz e d) {v:SV}{r:Result Next}
 (h:OpRes Γ D ow μ st w r v st') (s:SV) (H:∀ (D':Dom) (w':World) (m:Own) (z:Nat->Nat) (u:Value),SRep Γ.P D' w' m z st' v u->SlotRep Γ.P D' w' m z st' a s u) (U:∀ t M x,s=.gd t M x->o.dst≠some t)
 (next:Act->World->Prop) (Q:Exit->Act->World->Prop) (O:∀ V w',Rel Γ (put e o.dst s) st' V w'->next V w'):o.upon Γ.P a next Q r:=by
 obtain ⟨u,w',D',m,z,hr,hw,hm,hv⟩:=h
 have W:Rel Γ (put e o.dst s) st' (a.put o.dst u) w':=by refine ⟨D',m,z,hw,(hs.mono hm).put o.dst s u (λx X=>⟨by rw [hn];exact ajg Z x X,Y x X⟩) (H _ _ _ _ _ hv) U⟩
 grind [Oper.upon_value,Oper.upon_skip]
theorem aqy {C:Cfg} (hP:C.P=Γ.P) (hn:Γ.n=C.n) {ops:Array Oper}{i:Nat}{o:Oper} (ho:ops[i]?=some o) {e eF:Env}{st st':List BX}{v:SV} (h:StepV C ops o e st v st') (hd:apk C.n o.dst=true)
 (aF:∀ t,e t=.undef\/e t=eF t) {a:Act}{w:World} (ay:Rel Γ eF st a w) (hc:∀ d,o.dst=some d->azz eF d) (ax:∀ j m t,o.guard=some (j,m)->(ops[j]?).bind (·.dst)=some t->o.dst≠some t)
 (next:Act->World->Prop) (Q:Exit->Act->World->Prop) (M:(∀ u m x,v=.gd u m x->∃ j,o.guard=some (j,m)/\(ops[j]?).bind (·.dst)=some u)->∀ a' w',Rel Γ (put eF o.dst v) st' a' w'->next a' w'):wpOp Γ.P ops Q i next a w:=by
 obtain ⟨D,ow,μ,hw,hs⟩:=ay
 have Y:Slots Γ D ow μ e st a w:=⟨hs.size,hs.defers,λt=>by
  rcases aF t with h | h
  ·rw [h];exact .undef
  ·rw [h];exact hs.slot t⟩
 unfold wpOp
 simp only [ho]
 have aA:∀ f,a.eval (.func f)=.func (.func f) #[] #[]:=λf=>rfl
 have an:∀ x,SRep Γ.P D w ow μ st (opd e [] x) (a.eval x):=λx=>abw Y [] (λ_ Z=>by cases Z) x
 have aj:∀ (gs:List (Nat×Bool)),(∀ z,z∈gs->a.tmps.getD z.1 Go.undef=.bool z.2)->∀ c x y,o.op=.pick c x y->(a.eval c=.bool true->SRep Γ.P D w ow μ st (ρT e gs o.op true x) (a.eval x))/\(a.eval c=.bool false->SRep Γ.P D w ow μ st (ρT e gs o.op false y) (a.eval y)):=by
  intro gs aI c x y aG;rw [aG];refine ⟨λhc=>?_,λhc=>?_⟩
  ·cases c with
   | tmp t=>exact abw Y ((t,true)::gs) (λz hz=>by
    rcases Bl.1 hz with rfl | hz
    ·exact hc
    all_goals grind) x
   | _=>exact an x
  ·cases c with
   | tmp t=>exact abw Y ((t,false)::gs) (λz hz=>by
    rcases Bl.1 hz with rfl | hz
    ·exact hc
    all_goals grind) y
   | _=>exact an y
 have plain:∀ {r:Result Next},OpRes Γ D ow μ st w r v st'->o.upon Γ.P a next Q r:=by
  intro r aa;have ai:∀ t m x,v≠.gd t m x:=by intro t m x hv;obtain ⟨u,w',D',aK,aL,_,_,_,aH⟩:=aa;subst hv;cases aH
  exact atd hn hs hd hc aa v (λ_ _ _ _ _ h=>h.slot) (λt m x hv=>absurd hv (ai t m x)) next Q (M λu m x hv=>absurd hv (ai u m x))
 cases h with
 | val hg O=>
  have U:Region.wanted o (yielded ops a.tmps)=true:=by simp [Region.wanted,hg]
  simp only [U,A6]
  refine Or.inl ?_
  unfold Oper.wp
  rw [hP] at O
  exact plain (afc hw an o (aj [] (λ_ Z=>by cases Z)) v O)
 | upd hg O=>
  have U:Region.wanted o (yielded ops a.tmps)=true:=by simp [Region.wanted,hg]
  simp only [U,A6]
  all_goals grind [Oper.wp,al0]
 | @call f args as rs av sub aB bs hg O ao az hm W ah=>
  have U:Region.wanted o (yielded ops a.tmps)=true:=by simp [Region.wanted,hg]
  simp only [U,A6]
  refine Or.inl ?_
  unfold Oper.wp
  rw [hP] at O hm
  obtain ⟨am,ak,ap,V⟩:=ac3 an aA o f args O
  rw [ak,hm.1 am w,Oper.upon_enter]
  refine (aeu hw (aeo _ _) az ao ap V hm W).mono λen w' ⟨v,D',au,aw,he,h1,h2,h3⟩=>?_
  rcases acx h3 with ⟨s,e,_⟩ | ⟨_,h3,ad⟩
  ·all_goals grind
  rw [ad] at he
  subst he
  have ai:∀ t m x,ad2 av≠.gd t m x:=by intro t m x hv;rw [hv] at h3;cases h3
  exact M (λu m x hv=>absurd hv (ai u m x)) _ _ ⟨D',au,aw,h1,(hs.mono h2).put o.dst _ v (λx Z=>⟨by rw [hn];exact ajg hd x Z,hc x Z⟩) h3.slot (λt m x X=>absurd X (ai t m x))⟩
 | @gval j t m b c v hg ht hb O hi=>
  have ag:=alc Y 8 t m b hb
  have ar:=alv (tmps:=a.tmps) hg ht
  have aE:=ax j m t hg ht
  have ae:∀ u H x,SV.gd t m v=.gd u H x->∃ j,o.guard=some (j,H)/\(ops[j]?).bind (·.dst)=some u:=by all_goals grind
  cases b with
  | false=>
   have ah:a.tmps.getD t Go.undef≠.bool m:=λX=>by all_goals grind
   have aq:Region.wanted o (yielded ops a.tmps)=false:=by grind
   simp only [aq,A2,A7]
   exact M ae _ _ ⟨D,ow,μ,hw,hs.put o.dst _ Go.undef (λx Z=>⟨by rw [hn];exact ajg hd x Z,hc x Z⟩) ⟨λX=>absurd X ah,λ_=>rfl⟩ (λu H x X ab=>by grind)⟩
  | true=>
   have af:a.tmps.getD t Go.undef=.bool m:=ag.2 rfl
   have U:Region.wanted o (yielded ops a.tmps)=true:=ar.2 af
   simp only [U,A6]
   refine Or.inl ?_
   unfold Oper.wp
   have aD:c=true:=by grind [imp]
   subst aD
   rw [hP] at O
   have al:∀ x,SRep Γ.P D w ow μ st (opd e [(t,m)] x) (a.eval x):=λx=>abw Y [(t,m)] (λz hz=>by grind) x
   have aa:=afc hw al o (aj [(t,m)] (λz hz=>by grind)) v O
   exact atd hn hs hd hc aa (.gd t m v) (λ_ _ _ _ _ h=>⟨λ_=>h,λX=>absurd af X⟩) (λu H x X ab=>by grind) next Q (M ae)
 | @gcall j t m b f args as av hg ht hb O aJ ao hm ah=>
  have ag:=alc Y 8 t m b hb
  have ar:=alv (tmps:=a.tmps) hg ht
  have aE:=ax j m t hg ht
  have ae:∀ u H x,SV.gd t m (ad2 av)=.gd u H x->∃ j,o.guard=some (j,H)/\(ops[j]?).bind (·.dst)=some u:=by grind
  cases b with
  | false=>
   have ah:a.tmps.getD t Go.undef≠.bool m:=λX=>by grind
   have aq:Region.wanted o (yielded ops a.tmps)=false:=by grind
   simp only [aq,A2,A7]
   exact M ae _ _ ⟨D,ow,μ,hw,hs.put o.dst _ Go.undef (λx Z=>⟨by rw [hn];exact ajg hd x Z,hc x Z⟩) ⟨λX=>absurd X ah,λ_=>rfl⟩ (λu H x X ab=>by grind)⟩
  | true=>
   have af:a.tmps.getD t Go.undef=.bool m:=ag.2 rfl
   have U:Region.wanted o (yielded ops a.tmps)=true:=ar.2 af
   simp only [U,A6]
   refine Or.inl ?_
   unfold Oper.wp
   obtain ⟨rs,aB,hm,W⟩:=hm rfl
   rw [hP] at O hm
   have al:∀ x,SRep Γ.P D w ow μ st (opd e [(t,m)] x) (a.eval x):=λx=>abw Y [(t,m)] (λz hz=>by grind) x
   obtain ⟨am,ak,ap,V⟩:=ac3 al aA o f args O
   rw [ak,hm.1 am w,Oper.upon_enter]
   refine (aeu hw (ks:=[]) (by simp) (sub:=[]) rfl ao ap V hm (ahp W st)).mono λen w' ⟨v,D',au,aw,he,h1,h2,h3⟩=>?_
   rcases acx h3 with ⟨s,e,_⟩ | ⟨_,h3,ad⟩
   ·grind
   rw [ad] at he
   subst he
   have aC:ab8 [] [] st=st:=by simp [ab8]
   rw [aC] at h1 h2 h3
   exact M ae _ _ ⟨D',au,aw,h1,(hs.mono h2).put o.dst _ v (λx Z=>⟨by rw [hn];exact ajg hd x Z,hc x Z⟩) ⟨λ_=>h3,λX=>absurd af X⟩ (λu H x X ab=>by grind)⟩
theorem ax0 {C:Cfg} (hP:C.P=Γ.P) {ops:Array Oper}{i:Nat}{o:Oper} (ho:ops[i]?=some o) {e eF:Env}{st st':List BX}{s:SV} (h:bb2 C o e st s st')
 (X:∀ t,e t=.undef\/e t=eF t) {a:Act}{w:World} (H:Rel Γ eF st a w) (next:Act->World->Prop) (Q:Exit->Act->World->Prop)
 (hX:∀ v a' w',PRel Γ s st' v a' w'->Q (.panic [{ v,recovered:=false }]) a' w'):wpOp Γ.P ops Q i next a w:=by
 obtain ⟨D,ow,μ,hw,V⟩:=H
 obtain ⟨hg,f,args,as,rs,sub,ah,bs,z,W,O,Y,m,rfl⟩:=h
 have Z:Slots Γ D ow μ e st a w:=⟨V.size,V.defers,λt=>by
  rcases X t with h | h
  ·rw [h];exact .undef
  ·rw [h];exact V.slot t⟩
 have ae:∀ x,SRep Γ.P D w ow μ st (opd e [] x) (a.eval x):=λx=>abw Z [] (λ_ hx=>by cases hx) x
 have ad:∀ f,a.eval (.func f)=.func (.func f) #[] #[]:=λf=>rfl
 unfold wpOp
 simp only [ho]
 have ab:Region.wanted o (yielded ops a.tmps)=true:=by simp [Region.wanted,hg]
 simp only [ab,A6]
 refine Or.inl ?_
 unfold Oper.wp
 rw [hP] at z Y
 obtain ⟨U,M,aa,d⟩:=ac3 ae ad o f args z
 rw [M,Y.1 U w,Oper.upon_enter]
 refine (aeu hw (aeo _ _) O W aa d Y m).mono λen w' ⟨v,D',af,ag,he,h1,h2,h3⟩=>?_
 subst he
 exact hX v a w' ⟨V.defers,D',af,ag,h1,h3⟩
end
end Go.Ab
namespace Go.Ab
open Go
inductive Anc (ops:Array Oper):Nat->Nat->Prop
 | edge {j:Nat}{o:Oper}{x:Edge}:ops[j]?=some o->x∈o.after->Region.binds .any x=true->Anc ops x.on j
 | step {i j:Nat}{o:Oper}{x:Edge}:ops[j]?=some o->x∈o.after->Region.binds .any x=true->Anc ops i x.on->Anc ops i j
theorem at7 {d:List Nat}{i:Nat}:∀ {es:List Edge},Nat.testBit (agw d es) i=true->∃ x,x∈es/\Region.binds .any x=true/\(i=x.on\/Nat.testBit (d.getD x.on 0) i=true):=by
 intro es;induction es with
 | nil=>grind [agw]
 | cons x r m=>intro h;unfold agw at h;grind
theorem a2u {ops:Array Oper}:∀ (l:List Oper) (d:List Nat),ops.toList.drop d.length=l->(∀ j i,Nat.testBit (d.getD j 0) i=true->Anc ops i j)->∀ j i,Nat.testBit ((ancL l d).getD j 0) i=true->Anc ops i j:=by
 intro l;induction l with
 | nil=>intro d _ h;exact h
 | cons o r X=>
  intro d V h;unfold ancL;have W:ops[d.length]?=some o:=by
   have:(ops.toList.drop d.length)[0]?=some o:=by rw [V];rfl
   simpa using this
  have M:ops.toList.drop (d.length+1)=r:=by
   have:(ops.toList.drop d.length).drop 1=r:=by rw [V];rfl
   grind [List.drop_drop]
  refine X _ (by simpa using M) (λj i Y=>?_);by_cases Z:j<d.length
  ·grind
  ·by_cases H:j=d.length
   ·subst H;have z:Nat.testBit (agw d o.after.toList) i=true:=by grind
    obtain ⟨x,O,U,m⟩:=at7 z;rcases m with rfl | m
    ·exact .edge W (by simpa using O) U
    ·exact .step W (by simpa using O) U (h _ _ m)
   grind
theorem auo {ops:Array Oper}{i j:Nat} (h:(mkDI ops).lt i j=true):i<j/\Anc ops i j:=by unfold DI.lt at h;simp only [Ai] at h;refine ⟨As h.1,a2u ops.toList [] (by simp) (λj i d=>by simp at d) j i h.2⟩
def Down (ops:Array Oper) (L:Array Bool):Prop:=∀ j,L.getD j false=true->∀ o,ops[j]?=some o->∀ x,x∈o.after->Region.binds .any x=true->L.getD x.on false=true
theorem a2v {ops:Array Oper}{L:Array Bool} (H:Down ops L) {i j:Nat} (h:Anc ops i j) (M:∀ o,ops[j]?=some o->∀ x,x∈o.after->Region.binds .any x=true->L.getD x.on false=true):L.getD i false=true:=by
 induction h with
 | edge m z d=>grind
 | step m z d _ O=>exact O (H _ (M _ m _ z d))
theorem ayc {t:Nat}:∀ {l:List Oper}{k i:Nat},acq t l k=some i->k<=i/\∃ o,l[i-k]?=some o/\o.dst=some t:=by
 intro l;induction l with
 | nil=>grind [acq]
 | cons o r M=>
  intro k i h;have next:acq t r (k+1)=some i->k<=i/\∃ m,(o::r)[i-k]?=some m/\m.dst=some t:=by grind
  unfold acq at h;split at h
  ·rename_i d H;cases z:Nat.beq d t with
   | true=>simp_all
   | false=>grind
  ·exact next h
theorem aut:∀ {l:List Nat},ay8 l=true->l.Nodup:=by
 intro l;induction l with
 | nil=>intro _;simp
 | cons x r d=>intro h;simp only [ay8,Ai,Bool.not_eq_true'] at h;grind [List.nodup_cons,Nat.beq,List.any_eq_true,Nat.beq_refl]
theorem a7w {t:Nat}:∀ {l:List Oper}{k i:Nat}{o:Oper},(dsts l).Nodup->l[i]?=some o->o.dst=some t->acq t l k=some (k+i):=by
 intro l;induction l with
 | nil=>grind
 | cons x r H=>
  intro k i o m h d;have z:(dsts r).Nodup:=by grind [dsts,List.nodup_cons]
  cases i with
  | zero=>simp at h;subst h;unfold acq;simp [d]
  | succ i=>grind [dsts,List.mem_of_getElem?,acq,Nat.beq,Nat.eq_of_beq_eq_true,absurd,List.nodup_cons]
theorem aer {f:Nat->Oper->Bool}:∀ {l:List Oper}{k:Nat},anh f l k=true->∀ i o,l[i]?=some o->f (k+i) o=true:=by
 intro l;induction l with
 | nil=>grind
 | cons x r m=>intro k h i o d;simp only [anh,Ai] at h;grind
theorem at8:∀ {l:List Oper}{k:Nat},ark l k=true->∀ i o,l[i]?=some o->∀ x,x∈o.after->Region.binds .any x=true->x.on<k+i:=by
 intro l;induction l with
 | nil=>grind
 | cons y r H=>
  intro k h i o d x m z;simp only [ark,Ai,Bi] at h;cases i with
  | zero=>simp at d;subst d;have:=h.1 x (by simpa using m);simp_all
  | succ i=>grind
structure DStep (C:Cfg) (d:DI) (ops:Array Oper) (n0 j:Nat) (o:Oper) (e:Env) (st:List BX) (v:SV) (st':List BX) (lk lk':List LM):Prop where
 dst:apk C.n o.dst=true
 gd:gdOk d j o=true
 upd:d.upd j o=true->(bif adg o.op then d.isN j else d.isA j)=true/\n0<=st.length/\n0<=st'.length/\(d.soft o=true->a5d n0 o (d.mask j e)=true)/\StepV C ops o (d.mask j e) st v st'
 non:d.upd j o=false->st'=st/\∀ st2,(d.isA j=true->st2=st)->(d.isA j=false->st2.take (bif d.isB j then n0 else 0)=st.take (bif d.isB j then n0 else 0))->lmOf d n0 j o (d.mask j e)=none->StepV C ops o (d.mask j e) st2 v st2
 lm:∀ p,d.upd j o=false->lmOf d n0 j o (d.mask j e)=some p->adb C.P p.T st p.a=.val true v/\{ p with v:=v }∈lk'
 sub:∀ p,p∈lk->p∈lk'
 ok:d.upd j o=true->∀ p,p∈lk->d.cmp p.j j=false->(adg o.op||d.soft o)=true\/asf C o (d.mask j e) st p.k=true\/adb C.P p.T st' p.a=.val true p.v
structure DPan (C:Cfg) (d:DI) (n0 j:Nat) (o:Oper) (e:Env) (st:List BX) (sp:SV) (st':List BX):Prop where
 upd:d.upd j o=true
 ext:adg o.op=false
 isA:d.isA j=true
 last:d.last j=true
 len:n0<=st.length
 step:bb2 C o (d.mask j e) st sp st'
theorem avb {a:Ac}{v:SV} (h:axu a v=true):a=.val true v:=by unfold axu at h;split at h;all_goals simp_all
theorem aul {d:DI}{m j:Nat}{o:Oper}{e:Env}{p:LM} (h:lmOf d m j o e=some p):o.guard=none/\(∃ x,o.op=.load p.T x/\p.a=opd e [] x)/\amj p.a=some p.k/\p.k<m/\p.j=j/\d.isA j=false/\
 anh (λi x=>!(d.upd i x)||Nat.ble j i||d.cmp i j) d.l 0=true:=by
 unfold lmOf at h
 split at h
 ·rename_i T a M H;split at h
  ·rename_i k O;cases z:(Nat.blt k m&&!(d.isA j)&&!(d.isB j)&&anh (λi x=>!(d.upd i x)||Nat.ble j i||d.cmp i j) d.l 0) with
   | false=>grind
   | true=>rw [z] at h;simp only [Ad,Ak] at h;subst h;simp_all
  ·cases h
 ·cases h
theorem a9v {R:Type}{C:Cfg}{ops:Array Oper}{o:Oper}{e:Env}{st:List BX}{K:SV->Option R}{r:R}{T:TypeId}{x:Operand} (h:opW C ops o e st K=some r) (m:o.guard=none) (d:o.op=.load T x):∃ v,adb C.P T st (opd e [] x)=.val true v/\K v=some r:=by grind [opW,ac,an4]
theorem a1u {R:Type}{C:Cfg} (hC:aar C) {d:DI}{ops:Array Oper}{Z:Nat}{r:R}{K:Env->List BX->Option R}{X:SV->List BX->Option R}:∀ (l:List Oper) (j:Nat) (e:Env) (st:List BX) (H:List LM),runD C d ops Z l j e st H K X=some r->
 ∃ (N:Nat) (v:Nat->SV) (s:Nat->List BX) (E:Nat->Env) (LK:Nat->List LM),s j=st/\E j=e/\LK j=H/\N<=l.length/\(∀ i o,i<N->l[i]?=some o->DStep C d ops Z (j+i) o (E (j+i)) (s (j+i)) (v (j+i)) (s (j+i+1)) (LK (j+i)) (LK (j+i+1))/\E (j+i+1)=put (E (j+i)) o.dst (v (j+i)))/\
  ((N=l.length/\K (E (j+N)) (s (j+N))=some r)\/∃ o sp st',l[N]?=some o/\DPan C d Z (j+N) o (E (j+N)) (s (j+N)) sp st'/\X sp st'=some r):=by
 intro l
 induction l with
 | nil=>intro j e st H h;exact ⟨0,λ_=>.undef,λ_=>st,λ_=>e,λ_=>H,rfl,rfl,rfl,by simp,λi o _ h=>by simp at h,Or.inl ⟨rfl,h⟩⟩
 | cons o l ih=>
  intro j e st H h
  unfold runD at h
  cases W:(apk C.n o.dst&&gdOk d j o) with
  | false=>grind
  | true=>
   rw [W] at h
   simp only [Ad] at h
   simp only [Ai] at W
   have key:(∃ v0 st' ab,DStep C d ops Z j o e st v0 st' H ab/\runD C d ops Z l (j+1) (put e o.dst v0) st' ab K X=some r)\/∃ sp st',DPan C d Z j o e st sp st'/\X sp st'=some r:=by
    cases U:d.upd j o with
    | true=>
     rw [U] at h;simp only [Ad] at h;cases hA:((bif adg o.op then d.isN j else d.isA j)&&Nat.ble Z st.length&&(!(d.soft o)||a5d Z o (d.mask j e))) with
     | false=>grind
     | true=>
      rw [hA] at h;simp only [Ad] at h;simp only [Ai,Bd,Bool.not_eq_true'] at hA;obtain ⟨⟨aa,ad⟩,ai⟩:=hA;rcases azc hC h with ⟨v0,st',hs,z⟩ | ⟨sp,st',hs,z⟩
      ·refine Or.inl ?_;cases M:(Nat.ble Z st'.length&&lmOk C d j o (d.mask j e) st st' H) with
       | false=>grind
       | true=>
        rw [M] at z;simp only [Ai] at M;refine ⟨v0,st',H,⟨W.1,W.2,λ_=>⟨aa,As ad,As M.1,λhx=>?_,hs⟩,λm=>absurd m (by rw [U];decide),λp m=>absurd m (by rw [U];decide),λp hp=>hp,λ_ p hp ae=>?_⟩,z⟩
        ·grind
        ·have h3:=Bi.1 M.2 p hp;rw [ae] at h3;simp only [Bool.false_or,Bd] at h3;grind [avb]
      ·refine Or.inr ⟨sp,st',?_⟩;cases M:(d.last j&&!(adg o.op)) with
       | false=>grind
       | true=>rw [M] at z;simp only [Ai,Bool.not_eq_true'] at M;rw [M.2] at aa;exact ⟨⟨U,M.2,aa,M.1,As ad,hs⟩,z⟩
    | false=>
     rw [U] at h;simp only [Ae] at h;refine Or.inl ?_;cases O:lmOf d Z j o (d.mask j e) with
     | some p=>rw [O] at h;simp only at h;obtain ⟨af,⟨x,ag,ha⟩,_,_,_,ak,_⟩:=aul O;obtain ⟨v0,M,z⟩:=a9v h af ag;refine ⟨v0,st,_,⟨W.1,W.2,λm=>absurd m (by rw [U];decide),λ_=>⟨rfl,λV _ _ hn=>?_⟩,λq _ Y=>?_,λq Y=>List.mem_append_left _ Y,λm=>absurd m (by rw [U];decide)⟩,z⟩;all_goals grind
     | none=>
      rw [O] at h;simp only at h;cases hA:d.isA j with
      | true=>rw [hA] at h;simp only [Ad] at h;obtain ⟨v0,hs,z⟩:=azd hC h;refine ⟨v0,st,H,⟨W.1,W.2,λm=>absurd m (by rw [U];decide),λ_=>⟨rfl,λV h1 _ _=>?_⟩,λq _ Y=>absurd Y (by rw [O];simp),λ_ Y=>Y,λm=>absurd m (by rw [U];decide)⟩,z⟩;exact hs V V.length (by rw [List.take_length,h1 hA])
      | false=>rw [hA] at h;simp only [Ae] at h;obtain ⟨v0,hs,z⟩:=azd hC h;exact ⟨v0,st,H,⟨W.1,W.2,λm=>absurd m (by rw [U];decide),λ_=>⟨rfl,λV _ h1 _=>hs V _ (h1 hA)⟩,λq _ Y=>absurd Y (by rw [O];simp),λ_ Y=>Y,λm=>absurd m (by rw [U];decide)⟩,z⟩
   rcases key with ⟨v0,st',ab,hs,z⟩ | ⟨sp,st',hp,z⟩
   ·obtain ⟨N,v,s,E,LK,h1,h2,ah,hN,h3,h4⟩:=ih (j+1) _ _ _ z;refine ⟨N+1,λi=>if i=j then v0 else v i,λi=>if i=j then st else s i,λi=>if i=j then e else E i,λi=>if i=j then H else LK i,by simp,by simp,by simp,by simpa using hN,λi x aj hi=>?_,?_⟩
    ·cases i with
     | zero=>grind
     | succ i=>grind
    grind
   ·exact ⟨0,λ_=>.undef,λ_=>st,λ_=>e,λ_=>H,rfl,rfl,rfl,by simp,λi o h=>by omega,Or.inr ⟨o,sp,st',rfl,hp,z⟩⟩
end Go.Ab
namespace Go.Ab
open Go
theorem ato {P:Program}{m:Op}{o ρt ρf:Operand->SV}{st:List BX} (d:adg m=true):ac P m o ρt ρf st=match extV P m o st.length with | some (v,b)=>.upd true v (st++[b]) | none=>.fail:=by
 unfold adg at d;split at d
 ·rename_i T;simp only [ac,ahn,extV];grind
 ·rename_i T x;simp only [ac,aty,extV];grind
 ·rename_i T r;simp only [ac,aea,extV];split<;>rfl
 ·cases d
theorem arm {C:Cfg}{ops:Array Oper}{o:Oper}{e:Env}{st st':List BX}{v:SV} (M:adg o.op=true) (h:StepV C ops o e st v st'):o.guard=none/\∃ b,st'=st++[b]/\extV C.P o.op (opd e []) st.length=some (v,b):=by
 cases h with
 | val m d=>grind [ato]
 | gval m H z d=>grind [ato]
 | gcall m H z d=>grind [ato]
 | call m d=>grind [ato]
 | upd m d=>rw [ato M] at d;grind
theorem ayt {C:Cfg}{ops:Array Oper}{o:Oper}{e:Env}{st st':List BX}{v:SV}{d:Nat} (m:adg o.op=true) (h:StepV C ops o e st v st') (z:d<=st.length):st'.take d=st.take d:=by obtain ⟨_,b,rfl,_⟩:=arm m h;grind
theorem avi {C:Cfg}{ops:Array Oper}{o:Oper}{e:Env}{st st':List BX}{v:SV}{H:Nat} (m:a5d H o e=true) (h:StepV C ops o e st v st'):st'.take H=st.take H:=by
 unfold a5d at m;split at m;case h_2=>cases m
 rename_i T a x z;split at m;case h_2=>cases m
 rename_i k p U M;have V:H<=k:=As m;cases h with
 | val=>rfl
 | gval=>rfl
 | gcall=>rfl
 | upd O d=>
  rw [z] at d;simp only [ac,aei,M,Av] at d;repeat' split at d
  all_goals first
   | (cases d;done)
   | (
    obtain ⟨_,_,rfl⟩:=Ac.upd.inj d
    apply List.ext_getElem?
    grind)
 | call O d=>exfalso;rw [z] at d;simp only [ac,aei,M,Av] at d;grind
theorem az4:∀ (ks:List Nat) (bs st:List BX) (k:Nat),k∉ks->k<st.length->(ab8 ks bs st)[k]?=st[k]?:=by
 intro ks;induction ks with
 | nil=>grind [ab8,List.getElem?_append_left]
 | cons x r o=>
  intro bs st k m d;cases bs with
  | nil=>rfl
  | cons b q=>grind [ab8,List.getElem?_set_ne]
theorem asg {C:Cfg}{ops:Array Oper}{o:Oper}{e:Env}{st st':List BX}{v:SV}{k:Nat} (V:k<st.length) (h:StepV C ops o e st v st') (m:asf C o e st k=true):st'[k]?=st[k]?:=by
 unfold asf at m;cases h with
 | val=>rfl
 | gval=>rfl
 | gcall=>rfl
 | upd M z=>
  rw [M] at m;have m:(match (none:Option (Nat×Bool)),ac C.P o.op (opd e []) (ρT e [] o.op true) (ρT e [] o.op false) st with | none,.call _ args=>!((aa3 st args).any (Nat.beq k)) | none,.upd _ _ _=>(match o.op with | .store _ a _=>(match amj (opd e [] a) with | some i=>!(Nat.beq i k) | none=>false) | _=>false) | _,_=>false)=true:=m;rw [z] at m;simp only at m;split at m;case h_2=>cases m
  rename_i T a x H;split at m;case h_2=>cases m
  rename_i i d;have U:i≠k:=λh=>by grind [Nat.beq_refl]
  rw [H] at z;unfold amj at d;split at d;all_goals (try cases d)
  all_goals
   rename_i O
   simp only [ac,aei,O,Av] at z
   grind
 | @call f args _ _ _ _ _ _ M z _ _ _ _ _=>grind [ac,opd,ρT,aa3,Nat.beq,upd,store,amj,Bool.not_eq_true',az4,List.any_eq_true,Nat.beq_refl]
theorem ajr {P:Program}{T:TypeId}{a:SV}{k:Nat}{st st':List BX} (d:amj a=some k) (h:st'[k]?=st[k]?):adb P T st' a=adb P T st a:=by unfold amj at d;grind [adb,aj4]
theorem abo {L:Array Bool}{j i:Nat} (d:j<L.size):(L.setIfInBounds j true).getD i false=if i=j then true else L.getD i false:=by
 by_cases h:i=j
 ·simp_all
 ·have:j≠i:=λe=>h e.symm;simp_all
theorem agk (n i:Nat):(Array.replicate n false).getD i false=false:=by by_cases h:i<n<;>simp [h]
def envL (ops:Array Oper) (v:Nat->SV) (e:Env) (L:Array Bool):Env:=λt=>match acq t ops.toList 0 with | some i=>if L.getD i false=true then v i else e t | none=>e t
def unl (n:Nat) (L:Array Bool):Nat:=((List.range n).filter λi=>!L.getD i false).length
theorem a4b {p q:Nat->Bool}{j:Nat} (z:∀ i,q i=true->p i=true) (m:p j=true) (o:q j=false):∀ {l:List Nat},j∈l->(l.filter q).length<(l.filter p).length:=by
 intro l;have H:∀ l:List Nat,(l.filter q).length<=(l.filter p).length:=by
  intro l;induction l with
  | nil=>simp
  | cons x r d=>grind
 induction l with
 | nil=>intro h;cases h
 | cons x r d=>grind
section
variable {Γ:Ctx}
def aq7 (ops:Array Oper) (i:Nat):Prop:=∃ o,ops[i]?=some o/\(mkDI ops).upd i o=true
def afq (ops:Array Oper) (i:Nat):Prop:=∃ o,ops[i]?=some o/\adg o.op=true
def NUpd (ops:Array Oper) (i:Nat):Prop:=∃ o,ops[i]?=some o/\(mkDI ops).upd i o=true/\adg o.op=false
theorem arn {d:DI}{j:Nat}{o:Oper} (h:adg o.op=true):d.upd j o=true:=by
 unfold DI.upd;have:a4p o.op=true:=by
  unfold adg at h;split at h
  ·rename_i m;rw [m];rfl
  ·rename_i m;rw [m];rfl
  ·rename_i m;rw [m];rfl
  ·cases h
 rw [this];rfl
structure Part (ops:Array Oper) (s:Nat->List BX) (L:Array Bool) (k:Nat) (σ:List BX):Prop where
 len:(s k).length<=σ.length
 pre:∀ p,p<(s k).length->σ[p]?=(s k)[p]?
 fil:∀ i b,k<=i->afq ops i->L.getD i false=true->s (i+1)=s i++[b]->σ[(s i).length]?=some b
 hol:∀ p,(s k).length<=p->p<σ.length->σ[p]?=some .hole\/∃ i,k<=i/\afq ops i/\L.getD i false=true/\(s i).length=p
 top:σ.length=(s k).length\/∃ i,k<=i/\afq ops i/\L.getD i false=true/\σ.length=(s i).length+1
section
variable {ops:Array Oper}{s:Nat->List BX} (hE:∀ i,afq ops i->∃ b,s (i+1)=s i++[b]) (hN:∀ i,i<ops.size->¬aq7 ops i->s (i+1)=s i)
include hE hN
theorem auz {i:Nat} (z:i<ops.size) (O:¬NUpd ops i):(afq ops i/\∃ b,s (i+1)=s i++[b])\/(¬afq ops i/\s (i+1)=s i):=by
 have H:ops[i]?=some ops[i]:=Array.getElem?_eq_getElem z;cases V:adg ops[i].op with
 | true=>grind [afq]
 | false=>
  refine Or.inr ⟨λM=>?_,hN i z λU=>?_⟩
  ·obtain ⟨o,d,m⟩:=M;grind
  ·obtain ⟨o,d,m⟩:=U;rw [H] at d;cases d;exact O ⟨_,H,m,V⟩
theorem aku {p q:Nat} (z:p<=q) (U:q<=ops.size) (d:∀ i,p<=i->i<q->¬NUpd ops i):∃ o,s q=s p++o:=by
 induction q with
 | zero=>simp_all
 | succ q H=>
  by_cases O:p=q+1
  ·all_goals simp_all
  ·obtain ⟨o,h⟩:=H (by omega) (by omega) (λi m M=>d i m (by omega));rcases auz hE hN (i:=q) (by omega) (d q (by omega) (by omega)) with ⟨_,b,m⟩ | ⟨_,m⟩;all_goals grind
theorem alo {p q x:Nat} (O:p<=q) (U:q<=ops.size) (d:∀ i,p<=i->i<q->¬NUpd ops i) (m:(s p).length<=x) (z:x<(s q).length):∃ i,p<=i/\i<q/\afq ops i/\(s i).length=x:=by
 induction q with
 | zero=>grind
 | succ q W=>
  by_cases M:p=q+1
  ·subst M;omega
  ·have o:∀ i,p<=i->i<q->¬NUpd ops i:=λi m z=>d i m (by omega);rcases auz hE hN (i:=q) (by omega) (d q (by omega) (by omega)) with ⟨V,b,H⟩ | ⟨_,H⟩;all_goals grind
theorem asi {i q:Nat} (z:i<q) (H:q<=ops.size) (m:∀ d,i<d->d<q->¬NUpd ops d) {b:BX} (h:s (i+1)=s i++[b]):(s q)[(s i).length]?=some b/\(s i).length<(s q).length:=by obtain ⟨U,O⟩:=aku hE hN (p:=i+1) (q:=q) (by omega) H (λd M o=>m d (by omega) o);grind
theorem agi {L:Array Bool}{k j:Nat}{σ:List BX} (P:Part ops s L k σ) (H:k<=j) (V:j<=ops.size) (d:∀ i,k<=i->i<j->¬NUpd ops i) (m:∀ i,k<=i->i<j->afq ops i->L.getD i false=true) (ab:∀ i,j<=i->afq ops i->L.getD i false=false):σ=s j:=by
 have lt:∀ i,k<=i->afq ops i->L.getD i false=true->i<j:=λi W X h3=>by grind
 have ae:σ.length=(s j).length:=by
  rcases P.top with h | ⟨i,W,X,h3,h4⟩
  ·by_cases Z:(s k).length<(s j).length
   ·exfalso;obtain ⟨i,O,z,o,q4⟩:=alo hE hN H V d (Nat.le_refl _) Z;obtain ⟨b,U⟩:=hE i o;have:=P.fil i b O o (m i O z o) U;grind
   ·obtain ⟨τ,ht⟩:=aku hE hN H V d;grind
  ·have aa:=lt i W X h3;obtain ⟨b,U⟩:=hE i X;have ag:=(asi hE hN aa V (λM O z=>d M (by omega) z) U).2;by_cases Z:(s i).length+1<(s j).length
   ·exfalso;have af:(s (i+1)).length=(s i).length+1:=by rw [U];simp
    obtain ⟨M,O,z,o,q4⟩:=alo hE hN (p:=i+1) (q:=j) (by omega) V (λM O z=>d M (by omega) z) (x:=(s i).length+1) (by omega) Z;obtain ⟨b',Y⟩:=hE M o;have:=P.fil M b' (by omega) o (m M (by omega) z o) Y;grind
   ·omega
 obtain ⟨τ,ht⟩:=aku hE hN H V d;apply List.ext_getElem?;intro p;by_cases W:p<(s k).length
 ·rw [P.pre p W,ht,A5 W]
 ·by_cases X:p<(s j).length
  ·obtain ⟨i,O,z,o,q4⟩:=alo hE hN H V d (by omega) X;obtain ⟨b,U⟩:=hE i o;have e1:=P.fil i b O o (m i O z o) U;have e2:=(asi hE hN z V (λM ah ad=>d M (by omega) ad) U).1;grind
  grind
theorem a6b {L X:Array Bool}{k j:Nat}{H:List BX} (P:Part ops s L k H) (aa:k<=j) (hj:j<ops.size) (ab:∀ i,k<=i->i<j->¬NUpd ops i) (ad:∀ i,k<=i->afq ops i->L.getD i false=true->∀ U,k<=U->U<i->¬NUpd ops U)
 (hx:afq ops j) {b:BX} (hb:s (j+1)=s j++[b]) (aj:L.getD j false=false) (hL:∀ i,X.getD i false=if i=j then true else L.getD i false):
 (∃ n,(s j).length=(H++List.replicate n BX.hole).length/\Part ops s X k (H++List.replicate n .hole++[b]))\/(H[(s j).length]?=some .hole/\Part ops s X k (H.set (s j).length b)):=by
 obtain ⟨τ,ht⟩:=aku hE hN aa (by omega) ab
 have ag:(s k).length<=(s j).length:=by rw [ht];simp
 have ai:∀ i,L.getD i false=true->X.getD i false=true:=λi h=>by grind
 have ae:X.getD j false=true:=by rw [hL];simp
 have M:∀ i,k<=i->afq ops i->L.getD i false=true->(s i).length≠(s j).length:=by
  intro i m d h3 he;have ah:i≠j:=λhh=>by grind
  have hi:i<ops.size:=by obtain ⟨o,ho,_⟩:=d;grind
  rcases Nat.lt_or_gt_of_ne ah with h | h
  ·obtain ⟨Y,af⟩:=hE i d;have:=(asi hE hN h (by omega) (λU q1 W=>ab U (by omega) W) af).2;omega
  ·have:=(asi hE hN h (by omega) (λU q1 W=>ad i m d h3 U (by omega) W) hb).2;omega
 by_cases hc:(s j).length<H.length
 ·refine Or.inr ⟨?_,⟨by grind,λp O=>?_,λi Y m d h3 V=>?_,λp m d=>?_,?_⟩⟩
  ·rcases P.hol _ ag hc with h | ⟨i,m,d,h3,V⟩;all_goals grind
  ·rw [Ap (by omega)];exact P.pre p O
  ·by_cases Z:i=j
   ·simp_all
   ·have z:L.getD i false=true:=by grind
    rw [Ap (λh=>M i m d z h.symm)];exact P.fil i Y m d z V
  ·by_cases O:p=(s j).length
   ·all_goals grind
   ·rw [Ap (by omega)];rcases P.hol p m (by simpa using d) with h | ⟨i,q1,W,q3,q4⟩;all_goals grind
  ·rcases P.top with h | ⟨i,q1,W,q3,q4⟩;all_goals grind
 ·refine Or.inl ⟨(s j).length-H.length,by simp;omega,⟨?_,λp O=>?_,λi Y m d h3 V=>?_,λp m d=>?_,Or.inr ⟨j,aa,hx,ae,by simp;omega⟩⟩⟩
  ·grind
  ·have:=P.len;rw [Ax,A5 (by omega)];exact P.pre p O
  ·by_cases Z:i=j
   ·subst Z;rw [hb] at V;have:b=Y:=by simpa using V
    rw [Be (by simp;omega)];simp_all
   ·have z:L.getD i false=true:=by grind
    have e:=P.fil i Y m d z V;grind
  ·by_cases O:p<H.length
   ·rw [Ax,A5 O];rcases P.hol p m O with h | ⟨i,q1,W,q3,q4⟩;all_goals grind
   ·by_cases ak:p<(s j).length
    ·refine Or.inl ?_;rw [Ax,Be (by omega),A5 (by simp;omega)];rw [List.getElem?_replicate,if_pos (by omega)]
    grind
end
theorem bd6 {C:Cfg} (hP:C.P=Γ.P) (hn:Γ.n=C.n) {ops:Array Oper}{i:Nat}{o:Oper} (ho:ops[i]?=some o) {e W:Env}{k:Nat}{v:SV}{b:BX} (hg:o.guard=none) (z:extV C.P o.op (opd e []) k=some (v,b)) (hd:apk C.n o.dst=true)
 (Z:∀ t,e t=.undef\/e t=W t) {Y V:List BX}{a:Act}{w:World} (U:Rel Γ W Y a w) (ab:aq6 Γ.np Y k b V) (hc:∀ d,o.dst=some d->azz W d)
 (next:Act->World->Prop) (Q:Exit->Act->World->Prop) (M:(∀ u m x,v≠.gd u m x)->∀ a' w',Rel Γ (put W o.dst v) V a' w'->next a' w'):wpOp Γ.P ops Q i next a w:=by
 obtain ⟨D,ow,μ,hw,X⟩:=U
 have aa:Slots Γ D ow μ e Y a w:=⟨X.size,X.defers,λt=>by
  rcases Z t with h | h
  ·rw [h];exact .undef
  ·rw [h];exact X.slot t⟩
 unfold wpOp
 simp only [ho]
 have af:∀ x,SRep Γ.P D w ow μ Y (opd e [] x) (a.eval x):=λx=>abw aa [] (λ_ hx=>by cases hx) x
 have ae:Region.wanted o (yielded ops a.tmps)=true:=by simp [Region.wanted,hg]
 simp only [ae,A6]
 refine Or.inl ?_
 unfold Oper.wp
 rw [hP] at z
 have H:=a3z hw af o z ab
 have O:∀ t m x,v≠.gd t m x:=by intro t m x hv;obtain ⟨u,w',D',ag,ah,_,_,_,ad⟩:=H;subst hv;cases ad
 exact atd hn X hd hc H v (λ_ _ _ _ _ h=>h.slot) (λt m x hv=>absurd hv (O t m x)) next Q (M O)
theorem a6m {m:Env}{M:List BX}{a:Act}{w:World} (n:Nat) (h:Rel Γ m M a w):Rel Γ m (M++List.replicate n .hole) a w:=by
 obtain ⟨D,ow,μ,U,o⟩:=h;obtain ⟨O,z⟩:=WRel.pushHoles n U;refine ⟨D,ow,μ,O,⟨o.size,o.defers,λt=>?_⟩⟩;have:=o.slot t;revert this;cases m t with
 | gd u H x=>exact λd=>⟨λq=>z (d.1 q),d.2⟩
 | _=>exact λd=>z d
structure DInv (Γ:Ctx) (ops:Array Oper) (N n0:Nat) (v:Nat->SV) (s:Nat->List BX) (e:Env) (L:Array Bool) (a:Act) (w:World):Prop where
 size:L.size=ops.size
 down:Down ops L
 gd:∀ t u want x,envL ops v e L t=.gd u want x->∃ g o,L.getD g false=true/\ops[g]?=some o/\o.dst=some u
 lt:∀ i,L.getD i false=true->i<N
 k:∃ k σ,k<=N/\(∀ i,i<k->aq7 ops i->L.getD i false=true)/\(∀ i,k<=i->NUpd ops i->L.getD i false=false)/\n0<=(s k).length/\Part ops s L k σ/\Rel Γ (envL ops v e L) σ a w
set_option maxHeartbeats 4000000 in
theorem a1t {R:Type}{C:Cfg} (hC:aar C) (hP:C.P=Γ.P) (hn:Γ.n=C.n) {ops:Array Oper} (hd:at6 Γ.P ops=true) {e:Env}{st:List BX}{K:Env->List BX->Option R}{X:SV->List BX->Option R}{r:R} (h:runD C (mkDI ops) ops st.length ops.toList 0 e st [] K X=some r)
 (cq:∀ t u m x,e t≠.gd u m x) {Q:Exit->Act->World->Prop} (hK:∀ e' st' a' w',K e' st'=some r->Rel Γ e' st' a' w'->Q .normal a' w') (hX:∀ s st' v a' w',X s st'=some r->PRel Γ s st' v a' w'->Q (.panic [{ v,recovered:=false }]) a' w') (a:Act) (w:World) (bu:Rel Γ e st a w):
 wpAny Γ.P .any ops Q ops.size (Array.replicate ops.size false) a w:=by
 simp only [at6,Ai] at hd
 obtain ⟨⟨_,ap⟩,a7⟩:=hd
 have a7:=aut a7
 have ap:=at8 ap
 obtain ⟨N,v,s0,E,LK,bw,ce,b5,aD,aP,hk⟩:=a1u hC ops.toList 0 e st [] h
 have aY:ops.toList.length=ops.size:=by simp
 rw [aY] at aD
 simp only [Nat.zero_add,aY] at aP hk
 obtain ⟨s,bx,cv,b0⟩:∃ s:Nat->List BX,(∀ i,i<=N->s i=s0 i)/\(∀ i,N<=i->afq ops i->s (i+1)=s i++[.hole])/\(∀ i,N<=i->¬afq ops i->s (i+1)=s i):=by
  refine ⟨λi=>if i<=N then s0 i else s0 N++((List.range (i-N)).filter λd=>(ops[N+d]?).any λo=>adg o.op).map λ_=>.hole,λi Z=>by simp [Z],λi Z ⟨o,W,hx⟩=>?_,λi Z hx=>?_⟩
  ·simp only [show ¬(i+1<=N) by omega,A7,show i+1-N=(i-N)+1 by omega,List.range_succ,List.filter_append,List.map_append];grind
  ·simp only [show ¬(i+1<=N) by omega,A7,show i+1-N=(i-N)+1 by omega,List.range_succ,List.filter_append,List.map_append];have e1:(ops[N+(i-N)]?).any (λo=>adg o.op)=false:=by
    rw [show N+(i-N)=i by omega];cases W:ops[i]? with
    | none=>rfl
    | some o=>
         cases hb:adg o.op with
         | true=>exact absurd ⟨o,W,hb⟩ hx
         | false=>simp [hb]
   grind
 have bv:s 0=st:=(bx 0 (by omega)).trans bw
 have H:∀ j o,j<N->ops[j]?=some o->DStep C (mkDI ops) ops st.length j o (E j) (s j) (v j) (s (j+1)) (LK j) (LK (j+1))/\E (j+1)=put (E j) o.dst (v j):=by grind
 have bE:∀ p i j,i<=j->j<=N->p∈LK i->p∈LK j:=by
  intro p i j ab;induction j with
  | zero=>grind
  | succ j ih=>
   intro hj hp;by_cases he:i=j+1
   ·grind
   ·have W:ops[j]?=some ops[j]:=Array.getElem?_eq_getElem (by omega);exact (H j _ (by omega) W).1.sub p (ih (by omega) (by omega) hp)
 have b3:∀ j o t,ops[j]?=some o->o.dst=some t->acq t ops.toList 0=some j:=by intro j o t W aV;have:=a7w (k:=0) a7 (by simpa using W) aV;simpa using this
 have am:∀ t i,acq t ops.toList 0=some i->∃ o,ops[i]?=some o/\o.dst=some t:=by intro t i hw;obtain ⟨_,o,z,O⟩:=ayc hw;grind
 have hE:∀ j,j<=N->∀ t,E j t=match acq t ops.toList 0 with | some i=>if i<j then v i else e t | none=>e t:=by
  intro j;induction j with
  | zero=>grind
  | succ j ih=>
   intro hj t;have W:ops[j]?=some ops[j]:=Array.getElem?_eq_getElem (by omega);rw [(H j _ (by omega) W).2];have ih:=ih (by omega) t;cases aV:ops[j].dst with
   | none=>
    simp only [put,ih];cases hw:acq t ops.toList 0 with
    | none=>rfl
    | some i=>
     simp only;obtain ⟨o,z,O⟩:=am t i hw;have:i≠j:=λhh=>by all_goals grind
     by_cases ab:i<j;all_goals grind
   | some d=>
    simp only [put,Env.set];cases hb:Nat.beq t d with
    | true=>grind [Nat.eq_of_beq_eq_true]
    | false=>
     simp only [Ae,ih];cases hw:acq t ops.toList 0 with
     | none=>rfl
     | some i=>
      simp only;obtain ⟨o,z,O⟩:=am t i hw;have:i≠j:=λhh=>by all_goals grind [Nat.beq_refl]
      by_cases ab:i<j;all_goals grind
 have aA:∀ i,afq ops i->∃ b,s (i+1)=s i++[b]:=by
  intro i hx;by_cases Z:i<N
  ·obtain ⟨o,W,hx⟩:=hx;obtain ⟨_,_,_,_,aQ⟩:=(H i o Z W).1.upd (arn hx);obtain ⟨_,b,z,_⟩:=arm hx aQ;grind
  grind
 have aB:∀ i,i<ops.size->¬aq7 ops i->s (i+1)=s i:=by
  intro i Z av;have W:ops[i]?=some ops[i]:=Array.getElem?_eq_getElem Z;by_cases bL:i<N
  ·refine ((H i _ bL W).1.non ?_).1;cases hb:(mkDI ops).upd i ops[i] with
   | false=>rfl
   | true=>exact absurd ⟨_,W,hb⟩ av
  ·exact b0 i (by omega) (λ⟨o,z,O⟩=>av ⟨o,z,arn O⟩)
 have bT:Γ.np<=st.length:=by obtain ⟨_,_,_,hw,_⟩:=bu;exact hw.np
 have a8:∀ p q,p<=q->q<=ops.size->(∀ i,p<=i->i<q->¬aq7 ops i)->s p=s q:=by
  intro p q bX;induction q with
  | zero=>grind
  | succ q ih=>grind
 have aH:∀ p q,p<=q->q<=N->(∀ i o,p<=i->i<q->ops[i]?=some o->(mkDI ops).upd i o=true->adg o.op=true\/(mkDI ops).soft o=true)->(s p).take st.length=(s q).take st.length:=by
  intro p q bX;induction q with
  | zero=>grind
  | succ q ih=>
   intro hq av;by_cases he:p=q+1
   ·subst he;rfl
   ·have W:ops[q]?=some ops[q]:=Array.getElem?_eq_getElem (by omega);rw [ih (by omega) (by omega) (λi o z O=>av i o z (by omega))];cases hu:(mkDI ops).upd q ops[q] with
    | false=>rw [((H q _ (by omega) W).1.non hu).1]
    | true=>have hx:=av q _ (by omega) (by omega) W hu;obtain ⟨_,O,_,h4,h3⟩:=(H q _ (by omega) W).1.upd hu;grind [ayt,avi]
 have aW:∀ L a w,DInv Γ ops N st.length v s e L a w->(∀ i,i<ops.size->L.getD i false=true)->Q .normal a w:=by
  intro L a w Z aj;have be:N=ops.size:=by
   rcases Nat.lt_or_ge N ops.size with h | h
   ·have:=Z.lt N (aj N h);omega
   ·omega
  have hk:K (E ops.size) (s ops.size)=some r:=by simp_all
  obtain ⟨k,σ,ar,aJ,aK,aL,aa,hr⟩:=Z.k;have e1:σ=s ops.size:=agi aA aB aa (by omega) (Nat.le_refl _) (λi z O hu=>by
   grind) (λi _ O _=>aj i O) (λi z ⟨o,W,_⟩=>by
   grind)
  have e2:envL ops v e L=E ops.size:=by
   funext t;rw [hE _ (by omega)];unfold envL;cases hw:acq t ops.toList 0 with
   | none=>rfl
   | some i=>obtain ⟨o,z,_⟩:=am t i hw;grind
  grind
 have aN:∀ L,L.size=ops.size->Region.ready .any ops L=[]->∀ i,i<ops.size->L.getD i false=true:=by
  intro L cw hr i;induction i using Nat.strongRecOn with
  | _ i ih=>
   intro Z;cases hb:L.getD i false with
   | true=>rfl
   | false=>
    have W:ops[i]?=some ops[i]:=Array.getElem?_eq_getElem Z;have hm:i∈Region.ready .any ops L:=mem_ready.2 ⟨by
     grind,_,W,λx hx bH=>by
     have au:=ap i _ (by simpa using W) x hx bH;grind⟩
    grind
 have bA:∀ ae L a w,DInv Γ ops N st.length v s e L a w->unl ops.size L<=ae->wpAny Γ.P .any ops Q ae L a w:=by
  intro ae;induction ae with
  | zero=>
   intro L a w Z hu;have aj:∀ i,i<ops.size->L.getD i false=true:=by
    intro i au;cases hb:L.getD i false with
    | true=>rfl
    | false=>have:i∈(List.range ops.size).filter λi=>!L.getD i false:=List.mem_filter.2 ⟨List.mem_range.2 au,by rw [hb];rfl⟩;grind [List.length_pos_of_mem,unl]
   refine ⟨?_,aW L a w Z aj⟩;cases hr:Region.ready .any ops L with
   | nil=>rfl
   | cons i r=>
    have hm:i∈Region.ready .any ops L:=by rw [hr];simp
    obtain ⟨z,o,W,_⟩:=mem_ready.1 hm;have au:i<ops.size:=(Array.getElem?_eq_some_iff.1 W).1;have:=aj i au;have az:i<L.size:=by grind
    grind
  | succ ae ih=>
   intro L a w Z hu;refine ⟨λhr=>aW L a w Z (aN L Z.size hr),λj hj=>?_⟩;obtain ⟨cl,o,W,b8⟩:=mem_ready.1 hj;have au:j<ops.size:=(Array.getElem?_eq_some_iff.1 W).1;have M:j<L.size:=by grind
   have bl:L.getD j false=false:=by grind
   have b2:∀ i,Anc ops i j->L.getD i false=true:=λi ha=>a2v Z.down ha (λo' aM x hx hb=>by grind);have ck:∀ i,Anc ops j i->L.getD i false=false:=λi ha=>by
    cases hb:L.getD i false with
    | false=>rfl
    | true=>have:=a2v Z.down ha (Z.down i hb);grind
   have ag:∀ i,(mkDI ops).cmp i j=true->i≠j->(i<j/\L.getD i false=true)\/(j<i/\L.getD i false=false):=by
    intro i hc V;unfold DI.cmp at hc;cases hb:Nat.beq i j with
    | true=>grind [absurd,Nat.eq_of_beq_eq_true]
    | false=>
     rw [hb] at hc;simp only [Ae] at hc;cases a4:Nat.blt i j with
     | true=>rw [a4] at hc;obtain ⟨z,O⟩:=auo hc;grind
     | false=>rw [a4] at hc;obtain ⟨z,O⟩:=auo hc;grind
   obtain ⟨k,σ,ar,aJ,aK,aL,aa,hr⟩:=Z.k;have bM:j<=N:=by
    rcases Nat.lt_or_ge N j with h | h
    ·rcases hk with ⟨be,_⟩ | ⟨o',sp,st',aM,hp,_⟩
     ·omega
     ·have z:=aer hp.last j o (by simpa [mkDI] using W);simp only [Nat.zero_add,Bd] at z;rcases z with z | z
      ·simp_all
      ·have:=Z.lt N (b2 N (auo z).2);omega
    ·exact h
   have cf:∀ t i,acq t ops.toList 0=some i->i≠j->(mkDI ops).cmp i j=true->E j t=envL ops v e L t:=by intro t i hw V hc;rw [hE j bM];unfold envL;simp only [hw];rcases ag i hc V with ⟨z,O⟩ | ⟨z,O⟩;all_goals grind
   have ad:∀ t,(mkDI ops).mask j (E j) t=.undef\/(mkDI ops).mask j (E j) t=envL ops v e L t:=by
    intro t;unfold DI.mask;show (match acq t ops.toList 0 with | some i=>(bif (mkDI ops).cmp i j then E j t else .undef) | none=>E j t)=_\/(match acq t ops.toList 0 with | some i=>(bif (mkDI ops).cmp i j then E j t else .undef) | none=>E j t)=_;cases hw:acq t ops.toList 0 with
    | none=>refine Or.inr ?_;simp only;rw [hE j (by omega)];unfold envL;simp only [hw]
    | some i=>
     simp only;cases hc:(mkDI ops).cmp i j with
     | false=>exact Or.inl rfl
     | true=>
      refine Or.inr ?_;simp only [Ad];by_cases V:i=j
      ·subst V;rw [hE i (by omega)];unfold envL;grind
      grind
   have cd:(mkDI ops).isA j=true->∀ i,aq7 ops i->i≠j->(i<j/\L.getD i false=true)\/(j<i/\L.getD i false=false):=by intro hA i ⟨oi,Y,U⟩ V;have:=aer hA i oi (by simpa [mkDI] using Y);simp only [Nat.zero_add,U,Am,Bool.false_or] at this;exact ag i this V
   have cg:(mkDI ops).isN j=true->∀ i,NUpd ops i->i≠j->(i<j/\L.getD i false=true)\/(j<i/\L.getD i false=false):=by intro hA i ⟨oi,Y,U,aR⟩ V;have:=aer hA i oi (by simpa [mkDI] using Y);simp only [Nat.zero_add,U,aR,Aj,Bool.and_self,Am,Bool.false_or] at this;exact ag i this V
   have bc:∀ i,afq ops i->aq7 ops i:=λi ⟨o,z,O⟩=>⟨o,z,arn O⟩;have br:∀ i,NUpd ops i->aq7 ops i:=λi ⟨o,z,O,_⟩=>⟨o,z,O⟩;have bp:∀ i,k<=i->afq ops i->L.getD i false=true->∀ i',k<=i'->i'<i->¬NUpd ops i':=by
    intro i z ⟨oi,Y,aR⟩ h3 i' h4 h5 aE;obtain ⟨hA,_⟩:=(H i oi (Z.lt i h3) Y).1.upd (arn aR);rw [aR] at hA;obtain ⟨bB,a0,a2,a3⟩:=aE;have:=aer hA i' bB (by simpa [mkDI] using a0);simp only [Nat.zero_add,a2,a3,Aj,Bool.and_self,Am,Bool.false_or] at this;unfold DI.cmp at this;cases hb:Nat.beq i' i with
    | true=>grind [Nat.eq_of_beq_eq_true]
    | false=>
     rw [hb] at this;simp only [Ae] at this;have az:Nat.blt i' i=true:=by show Nat.ble (i'+1) i=true;rw [Nat.ble_eq];omega
     rw [az] at this;simp only [Ad] at this;obtain ⟨_,bf⟩:=auo this;have h6:=a2v Z.down bf (Z.down i h3);have:=aK i' h4 ⟨bB,a0,a2,a3⟩;grind
   rcases Nat.lt_or_ge j N with bm | b6;case inr=>
    have:j=N:=by omega
    subst this
    rcases hk with ⟨be,_⟩ | ⟨o',sp,st',aM,hp,bF⟩
    ·omega
    ·have aZ:ops[j]?=some o':=by simpa using aM
     rw [W] at aZ;cases aZ;have hA:=hp.isA;have ay:k<=j:=ar;have ba:σ=s j:=agi aA aB aa ay (by omega) (λi z O aE=>by
      grind) (λi z O he=>by
      grind) (λi z he=>by
      grind)
     rw [ba] at hr;have aO:=hp.step;rw [<-bx j (Nat.le_refl _)] at aO;exact ax0 hP W aO ad hr _ Q (λv' a' w' bY=>hX _ _ v' a' w' bF bY)
   obtain ⟨ao,b9⟩:=H j o bm W;have bz:(L.setIfInBounds j true).size=ops.size:=by simp [Z.size]
   have bk:∀ g m t,o.guard=some (g,m)->(ops[g]?).bind (·.dst)=some t->L.getD g false=true/\∃ og,ops[g]?=some og/\og.dst=some t:=by
    intro g m t hg ht;have:=ao.gd;unfold gdOk at this;rw [hg] at this;obtain ⟨z,O⟩:=auo this;cases ct:ops[g]? with
    | none=>grind
    | some og=>grind
   have cc:∀ g og t,L.getD g false=true->ops[g]?=some og->og.dst=some t->o.dst≠some t:=by grind
   have an:∀ aT k',k'<=N->Part ops s (L.setIfInBounds j true) k' aT->st.length<=(s k').length->(∀ i,i<k'->aq7 ops i->(L.setIfInBounds j true).getD i false=true)->(∀ i,k'<=i->NUpd ops i->(L.setIfInBounds j true).getD i false=false)->
    (∀ u m x,v j=.gd u m x->∃ g,o.guard=some (g,m)/\(ops[g]?).bind (·.dst)=some u)->∀ a' w',Rel Γ (put (envL ops v e L) o.dst (v j)) aT a' w'->wpAny Γ.P .any ops Q ae (L.setIfInBounds j true) a' w':=by
    intro aT k' bN aO bS z O aq a' w' aC
    have bj:put (envL ops v e L) o.dst (v j)=envL ops v e (L.setIfInBounds j true):=by
     funext t;cases hd:o.dst with
     | none=>
      show envL ops v e L t=_;unfold envL;cases hw:acq t ops.toList 0 with
      | none=>rfl
      | some i=>
       simp only;obtain ⟨oi,q1,q2⟩:=am t i hw;have:i≠j:=λhh=>by grind
       rw [abo M,if_neg this]
     | some d=>
      simp only [put,Env.set];cases hb:Nat.beq t d with
      | true=>have:=Af hb;subst this;unfold envL;rw [b3 j o t W hd];simp only [Ad];rw [abo M,if_pos rfl,if_pos rfl]
      | false=>
       simp only [Ae];unfold envL;cases hw:acq t ops.toList 0 with
       | none=>rfl
       | some i=>
        simp only;obtain ⟨oi,q1,q2⟩:=am t i hw;have:i≠j:=λhh=>by grind [Nat.beq_refl]
        rw [abo M,if_neg this]
    refine ih _ _ _ ⟨bz,?_,?_,λi hl=>?_,k',aT,bN,z,O,bS,aO,by grind⟩ ?_
    ·intro i hl oi Y x hx hb;rw [abo M] at hl ⊢;by_cases aS:x.on=j
     ·rw [if_pos aS]
     ·rw [if_neg aS];by_cases ab:i=j
      ·grind
      ·rw [if_neg ab] at hl;exact Z.down i hl oi Y x hx hb
    ·intro t u m x hh;rw [<-bj] at hh;have aI:(∃ g o,L.getD g false=true/\ops[g]?=some o/\o.dst=some u)->∃ g o,(L.setIfInBounds j true).getD g false=true/\ops[g]?=some o/\o.dst=some u:=by
      intro ⟨g,og,q1,q2,q3⟩;refine ⟨g,og,?_,q2,q3⟩;rw [abo M];split;all_goals grind
     cases hd:o.dst with
     | none=>rw [hd] at hh;exact aI (Z.gd t u m x hh)
     | some d=>
      rw [hd] at hh;simp only [put,Env.set] at hh;cases hb:Nat.beq t d with
      | true=>rw [hb] at hh;obtain ⟨g,q1,q2⟩:=aq u m x hh;obtain ⟨q3,og,q4,q5⟩:=bk g m u q1 q2;exact aI ⟨g,og,q3,q4,q5⟩
      | false=>rw [hb] at hh;exact aI (Z.gd t u m x hh)
    ·rw [abo M] at hl;by_cases ab:i=j
     ·omega
     ·rw [if_neg ab] at hl;exact Z.lt i hl
    ·have b7:unl ops.size (L.setIfInBounds j true)<unl ops.size L:=by
      unfold unl;refine a4b (j:=j) (λi hq=>?_) (by rw [bl];rfl) (by rw [abo M,if_pos rfl];rfl) (List.mem_range.2 au);rw [abo M] at hq;by_cases ab:i=j;all_goals grind
     omega
   have ah:∀ d,o.dst=some d->azz (envL ops v e L) d:=by intro d hd t u m x hh hu;subst hu;obtain ⟨g,og,q1,q2,q3⟩:=Z.gd t u m x hh;grind
   have aX:∀ g m t,o.guard=some (g,m)->(ops[g]?).bind (·.dst)=some t->o.dst≠some t:=λg m t hg ht=>by obtain ⟨q1,og,q2,q3⟩:=bk g m t hg ht;grind
   cases hu:(mkDI ops).upd j o with
   | true=>
    obtain ⟨hA,bP,bQ,_,aQ⟩:=ao.upd hu;have ay:k<=j:=by
     rcases Nat.lt_or_ge j k with az | bJ
     ·have:=aJ j az ⟨o,W,hu⟩;grind
     ·exact bJ
    cases hx:adg o.op with
    | true=>
     rw [hx] at hA;simp only [Ad] at hA;obtain ⟨bI,b,b1,ax⟩:=arm hx aQ;have av:∀ i,k<=i->i<j->¬NUpd ops i:=λi z O aE=>by grind
     have al:∀ i,(L.setIfInBounds j true).getD i false=if i=j then true else L.getD i false:=λi=>abo M
     have aS:afq ops j:=⟨o,W,hx⟩;have bd:∀ bb aU,Rel Γ (envL ops v e L) bb a w->aq6 Γ.np bb (s j).length b aU->Part ops s (L.setIfInBounds j true) k aU->wpOp Γ.P ops Q j (λa' w'=>wpAny Γ.P .any ops Q ae (L.setIfInBounds j true) a' w') a w:=by
      intro bb aU bZ bW aF;refine bd6 hP hn W bI ax ao.dst ad bZ bW ah _ Q (λaq a' w' aC=>an aU k ar aF aL (λi ab U=>?_) (λi ab U=>?_) (λu m x hv=>absurd hv (aq u m x)) a' w' aC)
      ·rw [al];split
       ·rfl
       grind
      ·rw [al];by_cases V:i=j
       ·subst V;obtain ⟨o',q1,_,q3⟩:=U;grind
       grind
     rcases a6b aA aB aa ay au av bp aS b1 bl al with ⟨n,a6,aF⟩ | ⟨a6,aF⟩
     ·exact bd _ _ (a6m n hr) (Or.inl ⟨a6,rfl⟩) aF
     ·exact bd _ _ hr (Or.inr ⟨a6,rfl,Nat.le_trans bT bP⟩) aF
    | false=>
     rw [hx] at hA;simp only [Ae] at hA;have ba:σ=s j:=agi aA aB aa ay (by omega) (λi z O aE=>by
      grind) (λi z O he=>by
      grind) (λi z he=>by
      grind)
     rw [ba] at hr;refine aqy hP hn W aQ ao.dst ad hr ah aX _ Q (λaq a' w' aC=>an (s (j+1)) (j+1) (by omega) ⟨Nat.le_refl _,λ_ _=>rfl,λi b z O h3 _=>?_,λp z O=>by omega,Or.inl rfl⟩ bQ (λi ab U=>?_) (λi ab U=>?_) aq a' w' aC)
     ·rw [abo M,if_neg (by omega)] at h3;grind
     ·rw [abo M];by_cases V:i=j
      ·rw [if_pos V]
      grind
     ·rw [abo M,if_neg (by omega)];grind
   | false=>
    have cr:¬aq7 ops j:=λ⟨o',aM,cx⟩=>by grind
    have bC:(mkDI ops).isA j=true->σ=s j:=by
     intro hA;rcases Nat.le_total k j with ad | ad
     ·exact agi aA aB aa ad (by omega) (λi z O aE=>by
       grind) (λi z O he=>by
       grind) (λi z he=>by
       grind)
     ·have e1:σ=s k:=agi aA aB aa (Nat.le_refl _) (Nat.le_trans ar aD) (λi z O=>by omega) (λi z O=>by omega) (λi z he=>by
       grind)
      rw [e1];refine (a8 j k ad (Nat.le_trans ar aD) (λi z O U=>?_)).symm;grind
    have bD:(mkDI ops).isA j=false->σ.take (bif (mkDI ops).isB j then st.length else 0)=(s j).take (bif (mkDI ops).isB j then st.length else 0):=by
     intro _;cases hB:(mkDI ops).isB j with
     | false=>simp
     | true=>
      simp only [Ad];have e0:σ.take st.length=(s k).take st.length:=by
       apply List.ext_getElem?;intro i;by_cases h:i<st.length
       ·rw [List.getElem?_take_of_lt h,List.getElem?_take_of_lt h];exact aa.pre i (by omega)
       grind
      rw [e0];have ax:∀ i oi,ops[i]?=some oi->(mkDI ops).upd i oi=true->i≠j->(adg oi.op||(mkDI ops).soft oi)=false->(i<j/\L.getD i false=true)\/(j<i/\L.getD i false=false):=by intro i oi Y U V hx;have:=aer hB i oi (by simpa [mkDI] using Y);simp only [Nat.zero_add,U,hx,Aj,Bool.and_self,Am,Bool.false_or] at this;exact ag i this V
      rcases Nat.le_total k j with ad | ad
      ·refine aH k j ad (by omega) (λi oi z O Y U=>?_);cases hx:(adg oi.op||(mkDI ops).soft oi) with
       | true=>grind
       | false=>
        rcases ax i oi Y U (by omega) hx with ⟨_,h3⟩ | ⟨h3,_⟩
        ·simp only [Bool.or_eq_false_iff] at hx;have:=aK i z ⟨oi,Y,U,hx.1⟩;grind
        ·omega
      ·refine (aH j k ad ar (λi oi z O Y U=>?_)).symm;have V:i≠j:=λhh=>by grind
       cases hx:(adg oi.op||(mkDI ops).soft oi) with
       | true=>grind
       | false=>
        rcases ax i oi Y U V hx with ⟨h3,_⟩ | ⟨_,h3⟩
        ·omega
        ·have:=aJ i O ⟨oi,Y,U⟩;grind
    have al:∀ i,(L.setIfInBounds j true).getD i false=if i=j then true else L.getD i false:=λi=>abo M
    have bU:∀ i,afq ops i->i≠j:=λi he hh=>by grind
    have bt:Part ops s (L.setIfInBounds j true) k σ:=by
     refine ⟨aa.len,aa.pre,λi b z O h3 h4=>?_,λp z O=>?_,?_⟩
     ·rw [al,if_neg (bU i O)] at h3;exact aa.fil i b z O h3 h4
     ·rcases aa.hol p z O with h | ⟨i,q1,q2,q3,q4⟩
      ·exact Or.inl h
      grind
     ·rcases aa.top with h | ⟨i,q1,q2,q3,q4⟩
      ·exact Or.inl h
      grind
    have a9:StepV C ops o ((mkDI ops).mask j (E j)) σ (v j) σ:=by
     cases a5:lmOf (mkDI ops) st.length j o ((mkDI ops).mask j (E j)) with
     | none=>exact (ao.non hu).2 σ bC bD a5
     | some p=>
      obtain ⟨bK,⟨x,bV,ha⟩,aG,bO,cu,cp,bg⟩:=aul a5;obtain ⟨co,bo⟩:=ao.lm p hu a5;have ca:st.length<=(s k).length:=aL;have e0:σ[p.k]?=(s k)[p.k]?:=aa.pre p.k (by omega);have a1:∀ i oi,i<N->ops[i]?=some oi->(mkDI ops).upd i oi=true->(adg oi.op||(mkDI ops).soft oi)=true->adb C.P p.T (s (i+1)) p.a=adb C.P p.T (s i) p.a:=by
       intro i oi Z Y U hx;obtain ⟨_,O,_,h4,h3⟩:=(H i oi Z Y).1.upd U;have ht:(s (i+1)).take st.length=(s i).take st.length:=by
        cases hb:adg oi.op with
        | true=>exact ayt hb h3 O
        | false=>rw [hb] at hx;exact avi (h4 hx) h3
       have e1:(s (i+1))[p.k]?=(s i)[p.k]?:=by have:=congrArg (λl=>l[p.k]?) ht;simpa [List.getElem?_take_of_lt bO] using this
       exact ajr aG e1
      have cb:adb C.P p.T (s k) p.a=.val true (v j):=by
       rcases Nat.le_total k j with bn | bn
       ·have:∀ q,k<=q->q<=j->adb C.P p.T (s k) p.a=adb C.P p.T (s q) p.a:=by
         intro q cn;induction q with
         | zero=>grind
         | succ q aw=>
          intro hq;by_cases he:k=q+1
          ·subst he;rfl
          ·rw [aw (by omega) (by omega)];have ai:ops[q]?=some ops[q]:=Array.getElem?_eq_getElem (by omega);cases af:(mkDI ops).upd q ops[q] with
           | false=>rw [((H q _ (by omega) ai).1.non af).1]
           | true=>
            have ak:=aer bg q ops[q] (by simpa [mkDI] using ai);simp only [Nat.zero_add,af,Am,Bool.false_or,Bd] at ak;have b4:adg ops[q].op=true:=by
             cases hb:adg ops[q].op with
             | true=>rfl
             | false=>
                 rcases ak with ak | ak
                 ·have:=As ak;omega
                 ·rcases ag q ak (by omega) with ⟨_,h3⟩ | ⟨h3,_⟩
                  ·have:=aK q (by omega) ⟨_,ai,af,hb⟩;grind
                  ·omega
            exact (a1 q _ (by omega) ai af (by rw [b4];rfl)).symm
        grind
       ·have:∀ q,j<=q->q<=k->adb C.P p.T (s q) p.a=.val true (v j):=by
         intro q cm;induction q with
         | zero=>grind
         | succ q aw=>
          intro hq;by_cases he:j=q+1
          ·grind
          ·have aw:=aw (by omega) (by omega);have ai:ops[q]?=some ops[q]:=Array.getElem?_eq_getElem (by omega);cases af:(mkDI ops).upd q ops[q] with
           | false=>rw [((H q _ (by omega) ai).1.non af).1];exact aw
           | true=>
            have V:q≠j:=λhh=>by grind
            have bR:({ p with v:=v j }:LM)∈LK q:=bE _ (j+1) q (by omega) (by omega) bo;cases ak:(mkDI ops).cmp j q with
            | true=>
             have bh:(mkDI ops).cmp q j=true:=by
                 revert ak;unfold DI.cmp;have ch:Nat.beq j q=false:=by rw [<-Bool.not_eq_true,Nat.beq_eq];omega
                 have a4:Nat.beq q j=false:=by rw [<-Bool.not_eq_true,Nat.beq_eq];omega
                 have ci:Nat.blt j q=true:=by show Nat.ble (j+1) q=true;rw [Nat.ble_eq];omega
                 have cj:Nat.blt q j=false:=by
                  cases bG:Nat.blt q j with
                  | false=>rfl
                  | true=>have:q+1<=j:=As bG;omega
                 grind
             rcases ag q bh V with ⟨h3,_⟩ | ⟨_,h3⟩
             ·omega
             ·have:=aJ q (by omega) ⟨_,ai,af⟩;grind
            | false=>
             have bi:=(H q _ (by omega) ai).1;rcases bi.ok af _ bR (by grind) with h3 | h3 | h3
             ·rw [a1 q _ (by omega) ai af h3];exact aw
             ·obtain ⟨_,O,_,_,h5⟩:=bi.upd af;rw [ajr aG (asg (k:=p.k) (by omega) h5 h3)];exact aw
             ·exact h3
        grind
      refine .val bK ?_;rw [bV];show adb C.P p.T σ (opd ((mkDI ops).mask j (E j)) [] x)=_;grind [ajr]
    refine aqy hP hn W a9 ao.dst ad hr ah aX _ Q (λaq a' w' aC=>an σ k ar bt aL (λi ab U=>?_) (λi ab U=>?_) aq a' w' aC)
    ·rw [abo M];split
     ·rfl
     grind
    ·rw [abo M];by_cases V:i=j
     ·grind
     grind
 refine bA _ _ _ _ ⟨by simp,λj hj=>absurd hj (by grind [agk]),λt u m x hh=>?_,λi hl=>absurd hl (by grind [agk]),0,st,by omega,λi Z=>by omega,λi _ _=>agk _ _,by grind,⟨by grind,λp _=>by rw [bv],λi b _ _ h3 _=>absurd h3 (by grind [agk]),λp z O=>by grind,Or.inl (by rw [bv])⟩,?_⟩ (by unfold unl;grind)
 ·have:envL ops v e (Array.replicate ops.size false) t=e t:=by
   unfold envL;split
   ·rw [agk,if_neg (by decide)]
   ·rfl
  grind
 ·have:envL ops v e (Array.replicate ops.size false)=e:=by
   funext t;unfold envL;split
   ·rw [agk,if_neg (by decide)]
   ·rfl
  grind
end
end Go.Ab
