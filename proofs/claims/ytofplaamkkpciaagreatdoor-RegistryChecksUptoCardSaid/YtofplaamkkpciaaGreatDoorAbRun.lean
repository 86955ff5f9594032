/- A function's run to its end: calls by their texts, loops round by round. -/
import Derived.Test.YtofplaamkkpciaaGreatDoorAbLoop
set_option linter.unusedVariables false
set_option linter.unusedSimpArgs false
set_option linter.unnecessarySimpa false
namespace Go.Ab
open Go
def subs:Code->List Code
 |.seq a b=>subs a++subs b
 |.cond _ a b=>subs a++subs b
 |.block _ c=>subs c
 |.scope c=>subs c
 |.loop c=>c::subs c
 |_=>[]
def findKey(key:Nat):List Code->Option Code
 |[]=>none
 |c::r=>bif Nat.beq (aeg c) key then some c else findKey key r
def axp:List Code->Bool
 |[]=>true
 |c::r=>r.all (λd=>!(Nat.beq (aeg d) (aeg c)))&&axp r
theorem az6:∀{l:List Code}{b:Code},axp l=true->b∈l->findKey (aeg b) l=some b:=by
 intro l;induction l with
 |nil=>grind
 |cons c r G=>
  intro b o m;simp only[axp,Ai,Bd]at o;rcases Bi.1 m with rfl|m
  ·simp[findKey]
  ·have t:=o.1 b m;have z:Nat.beq (aeg c) (aeg b)=false:=by
    grind[Nat.beq,aeg,Nat.eq_of_beq_eq_true,Nat.beq_refl]
   unfold findKey;grind
theorem axy:∀{c b:Code},b∈aaq c->b∈subs c:=by
 intro c;induction c with
 |seq x y m o=>grind[aaq,subs]
 |cond _ x y m o=>grind[aaq,subs]
 |block _ x m=>intro b h;exact m h
 |scope x m=>intro b h;exact m h
 |loop x m=>intro b h;simp only[aaq,List.mem_singleton]at h;subst h;exact List.mem_cons_self ..
 |_=>intro b h;cases h
theorem bf1:∀{c b d:Code},b∈subs c->d∈subs b->d∈subs c:=by
 intro c;induction c with
 |seq x y m o=>grind[subs]
 |cond _ x y m o=>grind[subs]
 |block _ x m=>intro b d h k;exact m h k
 |scope x m=>intro b d h k;exact m h k
 |loop x m=>intro b d h k;simp only[subs,Bi]at h ⊢;grind
 |_=>intro b d h;cases h
mutual
def pvEq:PV->PV->Bool
 |.bool a,.bool b=>cond a b (!b)
 |.int a,.int b=>decide (a=b)
 |.str a,.str b=>decide (a=b)
 |.slice a,.slice b=>avp a b
 |.agg a,.agg b=>avp a b
 |_,_=>false
def avp:List PV->List PV->Bool
 |[],[]=>true
 |a::r,b::q=>pvEq a b&&avp r q
 |_,_=>false
end
mutual
theorem aya:∀a b,pvEq a b=true->a=b
 |.bool a,b,h=>by cases b<;>simp_all[pvEq];cases a<;>simp_all
 |.int a,b,h=>by cases b<;>simp_all[pvEq]
 |.str a,b,h=>by cases b<;>simp_all[pvEq]
 |.slice a,b,h=>by cases b<;>simp only[pvEq,A3]at h;rw[agw _ _ h]
 |.agg a,b,h=>by cases b<;>simp only[pvEq,A3]at h;rw[agw _ _ h]
 |.bad,b,h=>by simp[pvEq]at h
 |.map _,b,h=>by simp[pvEq]at h
 |.raw _,b,h=>by simp[pvEq]at h
theorem agw:∀a b,avp a b=true->a=b
 |[],b,h=>by cases b<;>simp_all[avp]
 |a::r,b,h=>by
  cases b with
  |nil=>simp[avp]at h
  |cons b q=>simp only[avp,Ai]at h;rw[aya _ _ h.1,agw _ _ h.2]
end
def svEq:SV->SV->Bool
 |.bool a,.bool b=>cond a b (!b)
 |.int k a,.int j b=>decide (k=j)&&decide (a=b)
 |.str a,.str b=>decide (a=b)
 |.slice E a,.slice F b=>Nat.beq E F&&avp a b
 |.sln E a,.sln F b=>Nat.beq E F&&avp a b
 |.data T a,.data U b=>Nat.beq T U&&pvEq a b
 |.nils,.nils=>true
 |_,_=>false
theorem bci(a b:SV)(h:svEq a b=true):a=b:=by
 cases a<;>cases b<;>simp only[svEq,Ai,A3,Ax]at h
 ·rename_i a b;cases a<;>cases b<;>simp_all
 ·rw[h.1,h.2]
 ·rw[h]
 ·rw[Ag h.1,agw _ _ h.2]
 ·rw[Ag h.1,aya _ _ h.2]
 ·rfl
 ·rw[Ag h.1,agw _ _ h.2]
def ay0:List SV->List SV->Bool
 |[],[]=>true
 |a::r,b::q=>svEq a b&&ay0 r q
 |_,_=>false
theorem ano:∀a b,ay0 a b=true->a=b
 |[],b,h=>by cases b<;>simp_all[ay0]
 |a::r,b,h=>by
  cases b with
  |nil=>simp[ay0]at h
  |cons b q=>simp only[ay0,Ai]at h;rw[bci _ _ h.1,ano _ _ h.2]
abbrev Memo:=List (FuncId×List SV×List SV)
def aoy:Memo->FuncId->List SV->Option (List SV)
 |[],_,_=>none
 |(g,xs,rs)::r,f,as=>bif Nat.beq g f&&ay0 as xs then some rs else aoy r f as
def bgv(m:Memo)(f:FuncId)(o:List SV)(st:List BX):Option (List SV):=match st with|[]=>aoy m f o|_=>none
def MemoOk(P:Program)(m:Memo):Prop:=∀e,e∈m->Meets P e.1 e.2.1 [] e.2.2 []
theorem ba1{P:Program}{f:FuncId}{t:List SV}{st:List BX}{z:List SV}:∀{m:Memo},MemoOk P m->bgv m f t st=some z->st=[]/\Meets P f t [] z []:=by
 intro m G h;cases st with
 |cons=>cases h
 |nil=>
  refine⟨rfl,?_⟩;change aoy m f t=some z at h;induction m with
  |nil=>cases h
  |cons e r M=>
   obtain⟨g,xs,O⟩:=e;unfold aoy at h;cases o:(Nat.beq g f&&ay0 t xs)with
   |false=>rw[o]at h;exact M (λe J=>G e (List.mem_cons_of_mem _ J)) h
   |true=>rw[o]at h;simp only[Ai]at o;have H:=Ag o.1;have I:=ano _ _ o.2;cases h;subst H;subst I;exact G _ (List.mem_cons_self ..)
abbrev ay8:=(R:Type)->Bool->FuncId->List SV->List BX->(List SV->List BX->Option R)->Option R
abbrev LamT:=(R:Type)->Nat->Env->List BX->(LEx->Env->List BX->Option R)->Option R
@[reducible] def rcfg(P:Program)(own:Bool)(n np:Nat)(call:ay8)(fz:FuncId->Bool)(lam:LamT):Cfg:={ P:=P,own:=own,n:=n,np:=np,call:=call,lam:=lam,frz:=fz }
def lamR(o:LamT->Cfg)(m:List Code):Nat->LamT
 |0,_,_,_,_,_=>none
 |n+1,R,key,e,st,K=>
  match findKey key m with
  |some body=>exec (o (lamR o m n)) body { norm:=λe st=>lamR o m n R key e st K,exit:=λi e st=>K (.exit i) e st,ret:=λe st=>K .ret e st,pan:=λs st=>K .pan (λt=>bif Nat.beq t 0 then s else .undef) st } e st
  |none=>none
theorem bia{P:Program}{own:Bool}{n np:Nat}{call:ay8}{fz:FuncId->Bool}{J:List Code}(hC:acx (rcfg P own n np call fz (λ_ _ _ _ _=>none)))(hk:axp J=true)(hs:∀b,b∈J->∀d,d∈aaq b->d∈J):∀(m:Nat)(body:Code),body∈J->LoopOk (rcfg P own n np call fz (lamR (rcfg P own n np call fz) J m)) body:=by
 have aa:∀lam,acx (rcfg P own n np call fz lam):=λlam R b f as st K r h=>hC R b f as st K r h;have Z:∀(m:Nat)(body:Code),body∈J->∀(R:Type)(e:Env)(st:List BX)(K:LEx->Env->List BX->Option R)(r:R),lamR (rcfg P own n np call fz) J m R (aeg body) e st K=some r->
  ∀(Γ:Ctx),Γ.P=P->Γ.n=n->Γ.np=np->∀(Q:Exit->Act->World->Prop)(a:Act)(w:World),Rel Γ e st a w->NoGd e->
   (∀x e' st',K x e' st'=some r->NoGd e'->a7n Γ x e' st' Q)->Code.rounds P body Q m a w:=by
  intro m
  induction m with
  |zero=>intro body _ R e st K r h;cases h
  |succ m ih=>
   intro body W R e st K r h Γ hP hn Y Q a w o X M
   have hf:findKey (aeg body) J=some body:=az6 hk W
   unfold lamR at h
   rw[hf]at h
   rw[rounds_succ]
   have hL:∀d,d∈aaq body->LoopOk (rcfg P own n np call fz (lamR (rcfg P own n np call fz) J m)) d:=λd hd R e st K r h=>⟨m,λΓ h1 h2 h3 Q a w o X M=>ih d (hs body W d hd) R e st K r h Γ h1 h2 h3 Q a w o X M⟩
   have:=am2 (Γ:=Γ) (aa _) hP.symm hn Y r body hL _ e st h (Exit.then (Code.rounds P body Q m) Q) (λV G O U z H I=>?_) (λi V G O U z H I=>?_) (λV G O U z H I=>?_) (λs G v O U z hp=>?_) a w o X
   ·grind
   ·exact ih body W R V G K r z Γ hP hn Y Q O U I H M
   ·exact M (.exit i) V G z H O U I
   ·exact M .ret V G z H O U I
   ·refine M .pan _ G z ?_ v O U hp;intro t u ae x hx;cases ab:Nat.beq t 0 with
    |true=>simp only[ab,Ad]at hx;subst hx;obtain⟨_,D,ow,μ,_,ad⟩:=hp;cases ad
    |false=>grind
 intro m body W R e st K r h;exact⟨m,λΓ h1 h2 h3 Q a w o X M=>Z m body W R e st K r h Γ h1 h2 h3 Q a w o X M⟩
structure RSet where
 P:Program
 calls:List CallE
 ps:List CallP
 known:Nat
 mask:Nat
 own:Nat
 rounds:Nat
 fz:FuncId->Bool:=λ_=>false
 memo:Memo:=[]
def bi3(S:RSet)(call:ay8)(f:FuncId)(fn:Func)(m:List SV)(st:List BX):Option (List SV×List BX):=
 alg (rcfg S.P (Nat.testBit S.own f) fn.ntmps st.length call S.fz (lamR (rcfg S.P (Nat.testBit S.own f) fn.ntmps st.length call S.fz) (subs (abp fn)) S.rounds)) fn m st (λo s=>some (o,s))
def arp(S:RSet)(call:ay8)(f:FuncId)(m:List SV)(st:List BX):Option (List SV×List BX):=
 bif Nat.testBit S.mask f then
  match S.P.funcs[f]? with
  |some fn=>bif Nat.ble m.length fn.ntmps then bi3 S call f fn m st else none
  |none=>none
 else none
def dfltR(P:Program)(f:FuncId):List SV:=match P.funcs[f]? with|some fn=>fn.resultTypes.toList.map (λT=>(canon P (some T) (aa8 P 12 T)).getD .undef)|none=>[.undef]
def azo(S:RSet):Nat->ay8
 |0,_,_,_,_,_,_=>none
 |m+1,R,b,f,as,st,K=>
  bif Nat.testBit S.known f then atd S.P S.ps S.calls R b f as st K else
  bif b then
   match bgv S.memo f as st with
   |some o=>K o []
   |none=>
   (match arp S (azo S m) f as st with|some (o,s)=>K o s|none=>none)
  else K (dfltR S.P f) []
def RSet.fit (S:RSet):Bool:=(List.range S.P.funcs.size).all λf=>!(Nat.testBit S.mask f)||(match S.P.funcs[f]? with|some fn=>fn.body.isSome&&!(fn.name== "runtime.NumGoroutine")&&axp (subs (abp fn))|none=>false)
theorem a2w{S:RSet}{m:Memo}(h:S.fit=true):({ S with memo:=m }:RSet).fit=true:=h
theorem a1d{S:RSet}(o:S.fit=true){call:ay8}(J:∀own n np lam,acx (rcfg S.P own n np call S.fz lam)){f:FuncId}(Y:Nat.testBit S.mask f=true){fn:Func}(M:S.P.funcs[f]?=some fn){z:List SV}{st:List BX}(H:z.length<=fn.ntmps){O:List SV}{s:List BX}(h:bi3 S call f fn z st=some (O,s)):Meets S.P f z st O s:=by
 have G:=Bd.1 o f (List.mem_range.2 (by grind))
 rw[Y,M]at G;simp only[An,Bool.false_or,Ai]at G;obtain⟨⟨U,V⟩,I⟩:=G;obtain⟨c,W⟩:=Option.isSome_iff_exists.1 U;have t:abp fn=c:=by grind[abp]
 rw[t]at I;unfold bi3 at h;rw[t]at h;refine ahe (J _ _ _ _) M W rfl (by simpa using V) (λbody m=>bia (J _ _ _ _) I (λb t d X=>bf1 t (axy X)) S.rounds body (axy m)) h H rfl (λZ s' hk D w ow μ v D' w' hp=>?_);grind
theorem ahr{S:RSet}(o:S.fit=true){call:ay8}(H:∀own n np lam,acx (rcfg S.P own n np call S.fz lam)){f:FuncId}{m:List SV}{st:List BX}{t:List SV}{s:List BX}(h:arp S call f m st=some (t,s)):Meets S.P f m st t s:=by
 unfold arp at h;cases G:Nat.testBit S.mask f with
 |false=>grind
 |true=>
  rw[G,Ad]at h;split at h
  ·rename_i fn I;cases z:Nat.ble m.length fn.ntmps with
   |false=>grind
   |true=>rw[z,Ad]at h;grind[a1d,Nat.le_of_ble_eq_true]
  ·cases h
theorem a2k{S:RSet}(I:S.fit=true)(t:∀c,c∈S.calls->c.Ok S.P)(G:∀c,c∈S.ps->c.Ok S.P)(z:MemoOk S.P S.memo):∀(m:Nat)(own:Bool)(n np:Nat)(lam:LamT),acx (rcfg S.P own n np (azo S m) S.fz lam):=by
 intro m;induction m with
 |zero=>intro own n np lam R b f o st K r h;cases h
 |succ m U=>
  intro own n np lam R b f o st K r h;change azo S (m+1) R b f o st K=some r at h;unfold azo at h;cases J:Nat.testBit S.known f with
  |true=>rw[J,Ad]at h;exact aw0 (C:=rcfg S.P own n np (azo S m) S.fz lam) G S.calls t R b f o st K r h
  |false=>
   rw[J,Af]at h;cases b with
   |false=>grind
   |true=>
    rw[Ad]at h;split at h
    ·rename_i M O;obtain⟨rfl,H⟩:=ba1 z O;exact⟨λ_=>⟨M,[],h,H⟩,M,[],h⟩
    grind[ahr]
def av5(S:RSet)(m:Nat)(f:FuncId):Bool:=match arp S (azo S m) f [] []with|some ([.bool true],[])=>true|_=>false
theorem av6{S:RSet}(o:S.fit=true)(t:∀c,c∈S.calls->c.Ok S.P)(G:∀c,c∈S.ps->c.Ok S.P)(z:MemoOk S.P S.memo){m:Nat}{f:FuncId}(h:av5 S m f=true):Meets S.P f [] [] [.bool true] []:=by grind[av5,ahr,a2k]
def aod(S:RSet)(m:Nat)(e:FuncId×List SV×List SV):Bool:=match arp S (azo S m) e.1 e.2.1 []with|some (rs,[])=>ay0 rs e.2.2|_=>false
theorem a1f{S:RSet}(o:S.fit=true)(t:∀c,c∈S.calls->c.Ok S.P)(G:∀c,c∈S.ps->c.Ok S.P)(z:MemoOk S.P S.memo){m:Nat}{l:Memo}(h:l.all (aod S m)=true):MemoOk S.P l:=by
 intro e H;have h:=Bd.1 h e H;unfold aod at h;split at h
 ·rename_i J I;have:=ano _ _ h;subst this;exact ahr o (a2k o t G z m) I
 ·cases h
theorem MemoOk.app{P:Program}{a b:Memo}(h:MemoOk P a)(k:MemoOk P b):MemoOk P (a++b):=λe m=>(Bm.1 m).elim (h e) (k e)
theorem MemoOk.nil{P:Program}:MemoOk P []:=λ_ h=>nomatch h
def blv(f:FuncId):CallE:={ f:=f,A:=⟨0,[],[]⟩,R:=⟨1,[],[.bool]⟩,F:=λ_=>some true,dflt:=false }
theorem bga{P:Program}{f:FuncId}(h:Meets P f [] [] [.bool true] []):(blv f).Ok P:=by intro x y e;have e:some true=some y:=e;cases e;exact h
end Go.Ab
namespace Go.Ab
open Go
theorem an7{P:Program}{f:FuncId}{E:TypeId}{xs:List PV}(M:xs=[]->Meets P f [.nils] [] [.slice E xs] [])(J:Meets P f [.sln E xs] [] [.slice E xs] []):Meets P f [.slice E xs] [] [.slice E xs] []:=by
 refine⟨J.1,λD ow μ w o m=>?_⟩;obtain⟨v,rfl⟩:∃v,o=#[v]:=by
  have:=m.size;match o,this with
  |⟨[a]⟩,_=>exact⟨a,rfl⟩
 have z:=m.arg 0 _ v rfl rfl;have t:∀{s:SV},SRep P D w ow μ [] s v->Pre P D ow μ [] w [s] #[v]:=λ{s}h=>⟨rfl,λi U V G H=>by
  match i,G,H with
  |0,G,H=>simp at G H;subst G;subst H;exact h,m.objs,m.tabs⟩
 cases z with
 |slice z=>
  have O:v=.slice none 0 0/\xs=[]\/∃a n c,v=.slice (some a) n c:=by
   cases z with
   |@nil a c I=>cases a with
    |none=>have:=I rfl;subst this;exact Or.inl ⟨rfl,rfl⟩
    |some a=>exact Or.inr ⟨a,_,_,rfl⟩
   |mk=>exact Or.inr ⟨_,_,_,rfl⟩
  rcases O with⟨rfl,rfl⟩|⟨a,n,c,rfl⟩
  ·exact(M rfl).2 D ow μ w _ (t .nils)
  ·exact J.2 D ow μ w _ (t (.sln z))
end Go.Ab
