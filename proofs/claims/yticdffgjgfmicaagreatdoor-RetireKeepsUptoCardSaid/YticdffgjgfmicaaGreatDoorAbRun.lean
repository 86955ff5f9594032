/- A function's run to its end: calls by their texts, loops round by round. -/
import Derived.Test.YticdffgjgfmicaaGreatDoorAbLoop
set_option linter.unusedVariables false
set_option linter.unusedSimpArgs false
set_option linter.unnecessarySimpa false
namespace Go.Ab
open Go
def subs:Code->List Code
 |.seq a b=>subs a++subs b
 |.cond _ a b=>subs a++subs b
 |.block _ c=>subs c
 |.loop c=>c::subs c
 |_=>[]
def findKey(key:Nat):List Code->Option Code
 |[]=>none
 |c::r=>bif Nat.beq (aec c) key then some c else findKey key r
def awz:List Code->Bool
 |[]=>true
 |c::r=>r.all (λd=>!(Nat.beq (aec d) (aec c)))&&awz r
theorem azd:∀{l:List Code}{b:Code},awz l=true->b∈l->findKey (aec b) l=some b:=by
 intro l;induction l with
 |nil=>grind
 |cons c r G=>
  intro b o m;simp only[awz,Ai,Be]at o;rcases Bi.1 m with rfl|m
  ·simp[findKey]
  ·have t:=o.1 b m;have z:Nat.beq (aec c) (aec b)=false:=by
    grind[Nat.beq,aec,Nat.eq_of_beq_eq_true,Nat.beq_refl]
   unfold findKey;grind
theorem aw9:∀{c b:Code},b∈aar c->b∈subs c:=by
 intro c;induction c with
 |seq x y m o=>grind[aar,subs]
 |cond _ x y m o=>grind[aar,subs]
 |block _ x m=>intro b h;exact m h
 |loop x m=>intro b h;simp only[aar,List.mem_singleton]at h;subst h;exact List.mem_cons_self ..
 |_=>intro b h;cases h
theorem be6:∀{c b d:Code},b∈subs c->d∈subs b->d∈subs c:=by
 intro c;induction c with
 |seq x y m o=>grind[subs]
 |cond _ x y m o=>grind[subs]
 |block _ x m=>intro b d h k;exact m h k
 |loop x m=>intro b d h k;simp only[subs,Bi]at h ⊢;grind
 |_=>intro b d h;cases h
abbrev ayf:=(R:Type)->Bool->FuncId->List SV->List BX->(List SV->List BX->Option R)->Option R
abbrev LamT:=(R:Type)->Nat->Env->List BX->(LEx->Env->List BX->Option R)->Option R
@[reducible] def rcfg(P:Program)(own:Bool)(n np:Nat)(call:ayf)(fz:FuncId->Bool)(lam:LamT):Cfg:={ P:=P,own:=own,n:=n,np:=np,call:=call,lam:=lam,frz:=fz }
def lamR(o:LamT->Cfg)(m:List Code):Nat->LamT
 |0,_,_,_,_,_=>none
 |n+1,R,key,e,st,K=>
  match findKey key m with
  |some body=>exec (o (lamR o m n)) body { norm:=λe st=>lamR o m n R key e st K,exit:=λi e st=>K (.exit i) e st,ret:=λe st=>K .ret e st,pan:=λs st=>K .pan (λt=>bif Nat.beq t 0 then s else .undef) st } e st
  |none=>none
theorem bhf{P:Program}{own:Bool}{n np:Nat}{call:ayf}{fz:FuncId->Bool}{J:List Code}(hC:acw (rcfg P own n np call fz (λ_ _ _ _ _=>none)))(hk:awz J=true)(hs:∀b,b∈J->∀d,d∈aar b->d∈J):∀(m:Nat)(body:Code),body∈J->LoopOk (rcfg P own n np call fz (lamR (rcfg P own n np call fz) J m)) body:=by
 have aa:∀lam,acw (rcfg P own n np call fz lam):=λlam R b f as st K r h=>hC R b f as st K r h;have Z:∀(m:Nat)(body:Code),body∈J->∀(R:Type)(e:Env)(st:List BX)(K:LEx->Env->List BX->Option R)(r:R),lamR (rcfg P own n np call fz) J m R (aec body) e st K=some r->
  ∀(Γ:Ctx),Γ.P=P->Γ.n=n->Γ.np=np->∀(Q:Exit->Act->World->Prop)(a:Act)(w:World),Rel Γ e st a w->NoGd e->
   (∀x e' st',K x e' st'=some r->NoGd e'->a6h Γ x e' st' Q)->Code.rounds P body Q m a w:=by
  intro m
  induction m with
  |zero=>intro body _ R e st K r h;cases h
  |succ m ih=>
   intro body W R e st K r h Γ hP hn Y Q a w o X M
   have hf:findKey (aec body) J=some body:=azd hk W
   unfold lamR at h
   rw[hf]at h
   rw[rounds_succ]
   have hL:∀d,d∈aar body->LoopOk (rcfg P own n np call fz (lamR (rcfg P own n np call fz) J m)) d:=λd hd R e st K r h=>⟨m,λΓ h1 h2 h3 Q a w o X M=>ih d (hs body W d hd) R e st K r h Γ h1 h2 h3 Q a w o X M⟩
   have:=aml (Γ:=Γ) (aa _) hP.symm hn Y r body hL _ e st h (Exit.then (Code.rounds P body Q m) Q) (λV G O U z H I=>?_) (λi V G O U z H I=>?_) (λV G O U z H I=>?_) (λs G v O U z hp=>?_) a w o X
   ·grind
   ·exact ih body W R V G K r z Γ hP hn Y Q O U I H M
   ·exact M (.exit i) V G z H O U I
   ·exact M .ret V G z H O U I
   ·refine M .pan _ G z ?_ v O U hp;intro t u ae x hx;cases ab:Nat.beq t 0 with
    |true=>simp only[ab,Ad]at hx;subst hx;obtain⟨_,D,ow,μ,_,ad⟩:=hp;cases ad
    |false=>grind
 intro m body W R e st K r h;exact⟨m,λΓ h1 h2 h3 Q a w o X M=>Z m body W R e st K r h Γ h1 h2 h3 Q a w o X M⟩
structure RSet where
 P:Program
 calls:List CallE
 ps:List CallP
 known:Nat
 mask:Nat
 own:Nat
 rounds:Nat
 fz:FuncId->Bool:=λ_=>false
 cgt:Option (FuncId×TypeId):=none
def bhw(S:RSet)(call:ayf)(f:FuncId)(fn:Func)(m:List SV)(st:List BX):Option (List SV×List BX):=
 ak7 (rcfg S.P (Nat.testBit S.own f) fn.ntmps st.length call S.fz (lamR (rcfg S.P (Nat.testBit S.own f) fn.ntmps st.length call S.fz) (subs (abp fn)) S.rounds)) fn m st (λrs s=>some (rs,s))
def RSet.isCgt(S:RSet)(f:FuncId):Option TypeId:=match S.cgt with|some (g,W)=>(bif Nat.beq f g then some W else none)|none=>none
def bgm(W:TypeId)(rs:List SV):Option (List SV):=
 match rs with
 |[]=>some [.data W (.agg [.int 0,.int 0])]
 |[.pan (.ifc W' (.data W2 x))]=>bif Nat.beq W W'&&Nat.beq W W2 then some [.data W x]else none
 |_=>none
structure CgtOk(P:Program)(f:FuncId)(W:TypeId):Prop where
 ret:∀{g:FuncId}{n:Nat}{caps:List SV}{st st':List BX},Meets P g caps st [] st'->Meets P f [.fn g n caps] st [.data W (.agg [.int 0,.int 0])] st'
 pan:∀{g:FuncId}{n:Nat}{caps:List SV}{st st':List BX}{x:PV},Meets P g caps st [.pan (.ifc W (.data W x))] st'->Meets P f [.fn g n caps] st [.data W x] st'
theorem bcl{P:Program}{f:FuncId}{W:TypeId}(h:CgtOk P f W){g:FuncId}{n:Nat}{m rs t:List SV}{st st':List BX}(G:Meets P g m st rs st')(o:bgm W rs=some t):Meets P f [.fn g n m] st t st':=by
 unfold bgm at o;split at o
 ·cases o;exact h.ret G
 ·rename_i H I x;cases z:(Nat.beq W H&&Nat.beq W I)with
  |false=>grind
  |true=>rw[z]at o;simp only[Ai]at z;have:=Ag z.1;subst this;have:=Ag z.2;subst this;cases o;exact h.pan G
 ·cases o
def aq1(S:RSet)(call:ayf)(f:FuncId)(m:List SV)(st:List BX):Option (List SV×List BX):=
 bif Nat.testBit S.mask f then
  match S.P.funcs[f]? with
  |some fn=>bif Nat.ble m.length fn.ntmps then bhw S call f fn m st else none
  |none=>none
 else none
def ayv(S:RSet):Nat->ayf
 |0,_,_,_,_,_,_=>none
 |m+1,R,b,f,as,st,K=>
  bif Nat.testBit S.known f then asm S.P S.ps S.calls R b f as st K else
  bif b then
   match S.isCgt f with
   |some W=>
    match as with
    |[.fn g n caps]=>(match aq1 S (ayv S m) g caps st with|some (rs,s)=>(match bgm W rs with|some rs'=>K rs' s|none=>none)|none=>none)
    |_=>none
   |none=>(match aq1 S (ayv S m) f as st with|some (rs,s)=>K rs s|none=>none)
  else K [.undef] []
def RSet.fit (S:RSet):Bool:=(List.range S.P.funcs.size).all λf=>!(Nat.testBit S.mask f)||(match S.P.funcs[f]? with|some fn=>fn.body.isSome&&!(fn.name== "runtime.NumGoroutine")&&awz (subs (abp fn))|none=>false)
theorem a0i{S:RSet}(o:S.fit=true){call:ayf}(J:∀own n np lam,acw (rcfg S.P own n np call S.fz lam)){f:FuncId}(X:Nat.testBit S.mask f=true){fn:Func}(M:S.P.funcs[f]?=some fn){z:List SV}{st:List BX}(H:z.length<=fn.ntmps){rs:List SV}{s:List BX}(h:bhw S call f fn z st=some (rs,s)):Meets S.P f z st rs s:=by
 have G:=Be.1 o f (List.mem_range.2 (by grind))
 rw[X,M]at G;simp only[An,Bool.false_or,Ai]at G;obtain⟨⟨O,U⟩,I⟩:=G;obtain⟨c,V⟩:=Option.isSome_iff_exists.1 O;have t:abp fn=c:=by grind[abp]
 rw[t]at I;unfold bhw at h;rw[t]at h;refine aha (J _ _ _ _) M V rfl (by simpa using U) (λbody m=>bhf (J _ _ _ _) I (λb t d W=>be6 t (aw9 W)) S.rounds body (aw9 m)) h H rfl (λY s' Z D w ow μ v D' w' hp=>?_);grind
theorem ahn{S:RSet}(o:S.fit=true){call:ayf}(G:∀own n np lam,acw (rcfg S.P own n np call S.fz lam)){f:FuncId}{m:List SV}{st:List BX}{rs:List SV}{s:List BX}(h:aq1 S call f m st=some (rs,s)):Meets S.P f m st rs s:=by
 unfold aq1 at h;cases z:Nat.testBit S.mask f with
 |false=>grind
 |true=>
  rw[z,Ad]at h;split at h
  ·rename_i fn H;cases t:Nat.ble m.length fn.ntmps with
   |false=>grind
   |true=>rw[t,Ad]at h;grind[a0i,Nat.le_of_ble_eq_true]
  ·cases h
def RSet.CgtOk(S:RSet):Prop:=∀f W,S.cgt=some (f,W)->Ab.CgtOk S.P f W
theorem bgl{S:RSet}(h:S.cgt=none):S.CgtOk:=λf W e=>by grind
theorem bci{S:RSet}(t:S.fit=true)(I:∀c,c∈S.calls->c.Ok S.P)(J:∀c,c∈S.ps->c.Ok S.P)(H:S.CgtOk):∀(m:Nat)(own:Bool)(n np:Nat)(lam:LamT),acw (rcfg S.P own n np (ayv S m) S.fz lam):=by
 intro m;induction m with
 |zero=>intro own n np lam R b f G st K r h;cases h
 |succ m ih=>
  intro own n np lam R b f G st K r h;change ayv S (m+1) R b f G st K=some r at h;unfold ayv at h;cases V:Nat.testBit S.known f with
  |true=>rw[V,Ad]at h;exact av9 (C:=rcfg S.P own n np (ayv S m) S.fz lam) J S.calls I R b f G st K r h
  |false=>
   rw[V,Af]at h;cases b with
   |false=>grind
   |true=>
    rw[Ad]at h;split at h
    ·rename_i W o;have X:Ab.CgtOk S.P f W:=by
      unfold RSet.isCgt at o;split at o
      ·rename_i g W' Y;cases U:Nat.beq f g with
       |false=>grind
       |true=>rw[U]at o;cases o;have:=Ag U;subst this;exact H _ _ Y
      ·cases o
     split at h
     ·rename_i g n' O;split at h
      ·rename_i rs s Z;split at h
       ·rename_i z M;exact⟨λ_=>⟨z,s,h,bcl X (ahn t ih Z) M⟩,z,s,h⟩
       ·cases h
      ·cases h
     ·cases h
    grind[ahn]
def avf(S:RSet)(m:Nat)(f:FuncId):Bool:=match aq1 S (ayv S m) f [] []with|some ([.bool true],[])=>true|_=>false
theorem avg{S:RSet}(o:S.fit=true)(z:∀c,c∈S.calls->c.Ok S.P)(G:∀c,c∈S.ps->c.Ok S.P)(t:S.CgtOk){m:Nat}{f:FuncId}(h:avf S m f=true):Meets S.P f [] [] [.bool true] []:=by grind[avf,ahn,bci]
def bkg(f:FuncId):CallE:={ f:=f,A:=⟨0,[],[]⟩,R:=⟨1,[],[.bool]⟩,F:=λ_=>some true,dflt:=false }
theorem bfg{P:Program}{f:FuncId}(h:Meets P f [] [] [.bool true] []):(bkg f).Ok P:=by intro x y e;have e:some true=some y:=e;cases e;exact h
end Go.Ab
namespace Go.Ab
open Go
theorem ans{P:Program}{f:FuncId}{E:TypeId}{xs:List PV}(M:xs=[]->Meets P f [.nils] [] [.slice E xs] [])(J:Meets P f [.sln E xs] [] [.slice E xs] []):Meets P f [.slice E xs] [] [.slice E xs] []:=by
 refine⟨J.1,λD ow μ w o m=>?_⟩;obtain⟨v,rfl⟩:∃v,o=#[v]:=by
  have:=m.size;match o,this with
  |⟨[a]⟩,_=>exact⟨a,rfl⟩
 have z:=m.arg 0 _ v rfl rfl;have t:∀{s:SV},SRep P D w ow μ [] s v->Pre P D ow μ [] w [s] #[v]:=λ{s}h=>⟨rfl,λi U V G H=>by
  match i,G,H with
  |0,G,H=>simp at G H;subst G;subst H;exact h,m.objs,m.tabs⟩
 cases z with
 |slice z=>
  have O:v=.slice none 0 0/\xs=[]\/∃a n c,v=.slice (some a) n c:=by
   cases z with
   |@nil a c I=>cases a with
    |none=>have:=I rfl;subst this;exact Or.inl ⟨rfl,rfl⟩
    |some a=>exact Or.inr ⟨a,_,_,rfl⟩
   |mk=>exact Or.inr ⟨_,_,_,rfl⟩
  rcases O with⟨rfl,rfl⟩|⟨a,n,c,rfl⟩
  ·exact(M rfl).2 D ow μ w _ (t .nils)
  ·exact J.2 D ow μ w _ (t (.sln z))
end Go.Ab
