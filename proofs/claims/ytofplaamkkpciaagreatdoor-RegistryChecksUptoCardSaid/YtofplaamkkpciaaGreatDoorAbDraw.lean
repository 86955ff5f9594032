/- One operation of a region, whatever its order. -/
import Derived.Test.YtofplaamkkpciaaGreatDoorAbExec
set_option linter.unusedVariables false
set_option linter.unusedSimpArgs false
set_option linter.unnecessarySimpa false
namespace Go.Ab
open Go
def ρT(e:Env)(m:List (Nat×Bool))(o:Op)(w:Bool):Operand->SV:=match o with|.pick (.tmp u) _ _=>opd e ((u,w)::m)|_=>opd e []
inductive StepV(C:Cfg)(ops:Array Oper)(o:Oper)(e:Env)(st:List BX):SV->List BX->Prop
 |val {v:SV}:o.guard=none->ac C.P o.op (opd e []) (ρT e [] o.op true) (ρT e [] o.op false) st=.val true v->StepV C ops o e st v st
 |upd {v:SV}{st':List BX}:o.guard=none->ac C.P o.op (opd e []) (ρT e [] o.op true) (ρT e [] o.op false) st=.upd true v st'->StepV C ops o e st v st'
 |call {f:FuncId}{args as rs rs':List SV}{sub sub' bs:List BX}:o.guard=none->ac C.P o.op (opd e []) (ρT e [] o.op true) (ρT e [] o.op false) st=.call f args->
  renL st (acr (aau st args)) (λ_=>0) args=some as->ah4 st (acr (aau st args)) (λ_=>0) (aau st args)=some sub->Meets C.P f as sub rs sub'->ae9 st (aau st args) rs sub'=some (rs',bs)->(∀s,rs'≠[.pan s])->StepV C ops o e st (adk rs') (ab2 (aau st args) bs st)
 |gval {j t:Nat}{want b c:Bool}{v:SV}:o.guard=some (j,want)->(ops[j]?).bind (·.dst)=some t->gval e 8 t want=some b->
  ac C.P o.op (opd e [(t,want)]) (ρT e [(t,want)] o.op true) (ρT e [(t,want)] o.op false) st=.val c v->imp b c=true->StepV C ops o e st (.gd t want v) st
 |gcall {j t:Nat}{want b:Bool}{f:FuncId}{args as rs':List SV}:o.guard=some (j,want)->(ops[j]?).bind (·.dst)=some t->gval e 8 t want=some b->
  ac C.P o.op (opd e [(t,want)]) (ρT e [(t,want)] o.op true) (ρT e [(t,want)] o.op false) st=.call f args->aau st args=[]->renL st (acr []) (λ_=>0) args=some as->
  (b=true->∃rs sub',Meets C.P f as [] rs sub'/\af0 rs sub'=some rs')->(∀s,rs'≠[.pan s])->StepV C ops o e st (.gd t want (adk rs')) st
 |gcallU {j t:Nat}{want:Bool}{f:FuncId}{args as rs rs':List SV}{sub sub' bs:List BX}:o.guard=some (j,want)->(ops[j]?).bind (·.dst)=some t->gval e 8 t want=some true->
  ac C.P o.op (opd e [(t,want)]) (ρT e [(t,want)] o.op true) (ρT e [(t,want)] o.op false) st=.call f args->
  renL st (acr (aau st args)) (λ_=>0) args=some as->ah4 st (acr (aau st args)) (λ_=>0) (aau st args)=some sub->Meets C.P f as sub rs sub'->ae9 st (aau st args) rs sub'=some (rs',bs)->(∀s,rs'≠[.pan s])->StepV C ops o e st (.gd t want (adk rs')) (ab2 (aau st args) bs st)
 |gskip {j t:Nat}{want:Bool}{f:FuncId}{args:List SV}{x:SV}:o.guard=some (j,want)->(ops[j]?).bind (·.dst)=some t->gval e 8 t want=some false->
  ac C.P o.op (opd e [(t,want)]) (ρT e [(t,want)] o.op true) (ρT e [(t,want)] o.op false) st=.call f args->StepV C ops o e st (.gd t want x) st
def bg7(C:Cfg)(o:Oper)(e:Env)(st:List BX)(s:SV)(st':List BX):Prop:=
 o.guard=none/\∃f args t z sub m bs,ac C.P o.op (opd e []) (ρT e [] o.op true) (ρT e [] o.op false) st=.call f args/\renL st (acr (aau st args)) (λ_=>0) args=some t/\ah4 st (acr (aau st args)) (λ_=>0) (aau st args)=some sub/\
  Meets C.P f t sub z m/\ae9 st (aau st args) z m=some ([.pan s],bs)/\st'=ab2 (aau st args) bs st
theorem be7{R:Type}{C:Cfg}(hC:acx C){ops:Array Oper}{o:Oper}{e:Env}{st:List BX}{K X:SV->List BX->Option R}{r:R}(h:opV C ops o e st K X=some r):(∃v st',StepV C ops o e st v st'/\K v st'=some r)\/∃s st',bg7 C o e st s st'/\X s st'=some r:=by
 unfold opV at h;split at h
 ·rename_i U;split at h
  ·cases h
  ·rename_i c v m;cases c with
   |false=>cases h
   |true=>exact Or.inl ⟨v,st,.val U m,h⟩
  ·rename_i c v st' m;cases c with
   |false=>cases h
   |true=>exact Or.inl ⟨v,st',.upd U m,h⟩
  ·cases h
  ·rename_i f args m;split at h
   ·rename_i W sub H J;obtain⟨rs,M,G,Y⟩:=(hC R true f W sub _ r h).1 rfl;split at G;case h_2=>cases G
    rename_i aa bs z;rcases ae2 G with⟨s,rfl,G⟩|⟨I,G⟩
    ·exact Or.inr ⟨s,_,⟨U,f,args,W,rs,sub,M,bs,m,H,J,Y,z,rfl⟩,G⟩
    ·exact Or.inl ⟨_,_,.call U m H J Y z I,G⟩
   ·cases h
 ·rename_i j ad U;split at h
  ·cases h
  ·rename_i t ht;split at h
   ·cases h
   ·rename_i b V;split at h
    ·rename_i c v m;cases hi:imp b c with
     |false=>grind
     |true=>rw[hi]at h;exact Or.inl ⟨_,_,.gval U ht V m hi,h⟩
    ·rename_i f args m;split at h
     ·rename_i W Z H;obtain⟨h1,ae,ab,O⟩:=hC R b f W [] _ r h;cases b with
      |true=>
       obtain⟨rs,M,G,Y⟩:=h1 rfl;split at G;case h_2=>cases G
       rename_i aa z;obtain⟨I,G⟩:=ad3 G;exact Or.inl ⟨_,_,.gcall U ht V m Z H (λ_=>⟨rs,M,Y,z⟩) I,G⟩
      |false=>
       split at O;case h_2=>cases O
       obtain⟨I,O⟩:=ad3 O;exact Or.inl ⟨_,_,.gcall U ht V m Z H (λV=>by cases V) I,O⟩
     ·cases b with
      |false=>exact Or.inl ⟨_,_,.gskip U ht V m,h⟩
      |true=>
       simp only[Ad]at h;split at h
       ·rename_i W sub H J;obtain⟨rs,M,G,Y⟩:=(hC R true f W sub _ r h).1 rfl;split at G;case h_2=>cases G
        rename_i aa bs z;obtain⟨I,G⟩:=ad3 G;exact Or.inl ⟨_,_,.gcallU U ht V m H J Y z I,G⟩
       ·cases h
    ·cases h
theorem a4o{P:Program}{st:List BX}{T:TypeId}{x y:SV}{c:Bool}{v:SV}:acy P st T x y≠.val c v:=by intro h;unfold acy at h;grind
theorem azg{P:Program}{st:List BX}{T:TypeId}{x y:SV}{f:FuncId}{m:List SV}:acy P st T x y≠.call f m:=by intro h;unfold acy at h;grind
theorem awt{P:Program}{st:List BX}{T:TypeId}{x y:SV}{c:Bool}{v:SV}:acq P st T x y≠.val c v:=by intro h;unfold acq at h;simp only[As]at h;grind[a4o]
theorem auc{P:Program}{st:List BX}{T:TypeId}{x y:SV}{f:FuncId}{m:List SV}:acq P st T x y≠.call f m:=by intro h;unfold acq at h;simp only[As]at h;grind[azg]
theorem a8m{P:Program}{st:List BX}{T:TypeId}{x:SV}{c:Bool}{v:SV}:afc P st T x≠.val c v:=by intro h;unfold afc at h;grind
theorem a5a{P:Program}{st:List BX}{T:TypeId}{x:SV}{f:FuncId}{m:List SV}:afc P st T x≠.call f m:=by intro h;unfold afc at h;grind
theorem arw{P:Program}{st:List BX}{T:TypeId}{x y:SV}{c:Bool}{v:SV}:ad8 P T st x y≠.val c v:=by intro h;unfold ad8 at h;grind
theorem a1m{P:Program}{st:List BX}{T:TypeId}{x y:SV}{c:Bool}{v:SV}:aep P T st x y≠.val c v:=by
 intro h;unfold aep at h;split at h
 ·split at h
  ·split at h
   ·simp only[As]at h;grind[arw]
   ·cases h
  ·exact arw h
 ·exact arw h
theorem ax2{P:Program}{st:List BX}{T:TypeId}{x y:SV}{c:Bool}{v:SV}:acn P T st x y≠.val c v:=by intro h;unfold acn at h;grind
theorem asc{P:Program}{st:List BX}{T:TypeId}{x y z:SV}{c:Bool}{v:SV}:aca P T st x y z≠.val c v:=by intro h;unfold aca at h;grind
theorem alz{P:Program}{st:List BX}{T:TypeId}{x y z:SV}{c:Bool}{v:SV}:ab4 P T st x y z≠.val c v:=by intro h;unfold ab4 at h;grind
theorem a0p{P:Program}{st:List BX}{T:TypeId}{r:Option Operand}{c:Bool}{v:SV}:aej P T r st≠.val c v:=by intro h;unfold aej at h;grind
theorem apa{P:Program}{z:Op}{o ρt ρf:Operand->SV}{st:List BX}{m:Nat}{c:Bool}{v:SV}(h:ac P z o ρt ρf (st.take m)=.val c v):ac P z o ρt ρf st=.val c v:=by
 have H:∀(k:Nat)(b:BX),(st.take m)[k]?=some b->st[k]?=some b:=by grind
 have M:∀(k g:Nat)(E:TypeId)(xs:List PV),ad1 (st.take m) k g E=some xs->ad1 st k g E=some xs:=by grind[ad1]
 have O:∀(k g:Nat),afz (st.take m) k g=true->afz st k g=true:=by grind[afz]
 cases z with
 |nilCheck x=>grind[ac,afz]
 |fieldAddr S x i=>
  simp only[ac,ac3]at h ⊢;generalize o x=y at h ⊢;cases y with
  |aref k g j E p T=>grind
  |_=>exact h
 |indexAddr T x i=>
  simp only[ac]at h ⊢;cases U:apd P T (au2 i) (o x) (o i)with
  |some r=>grind
  |none=>
  rw[U]at h;simp only[ac4]at h ⊢;cases J:apc P T (o x) (o i)with
  |some r=>grind
  |none=>
   rw[J]at h;simp only at h ⊢;cases t:ahq P T (st.take m) (o x) (o i)with
   |some r=>
    rw[t]at h;have:ahq P T st (o x) (o i)=some r:=by unfold ahq at t ⊢;grind
    grind
   |none=>
    rw[t]at h;simp only at h;have:ahq P T st (o x) (o i)=none:=by unfold ahq;grind[an5]
    grind
 |load T a=>
  simp only[ac,ahy]at h ⊢;generalize o a=x at h ⊢;cases x with
  |ref k path I=>grind
  |eref k i E=>grind
  |aref k g i E path I=>grind
  |_=>exact h
 |convert s d x=>simp only[ac]at h ⊢;unfold afp at h ⊢;grind
 |lookup T x k Y=>
  simp only[ac]at h ⊢;unfold ac6 at h ⊢;cases G:P.underlying T with
  |none=>grind
  |some d=>
   cases d with
   |map K E=>grind
   |_=>rw[G]at h;cases h
 |call W=>
  simp only[ac]at h ⊢;unfold aj3 at h ⊢;split at h
  ·cases h
  ·all_goals grind
  ·split at h
   ·rename_i x T X G;unfold au7 at h ⊢;generalize o x=y at h ⊢;generalize P.underlying T=u at h ⊢;cases u with
    |none=>cases h
    |some d=>
     cases d with
     |map K E=>all_goals grind
     |slice V=>all_goals grind
     |_=>cases y<;>exact h
   ·cases h
  all_goals grind[Nat.beq,absurd,awt,a8m]
 |store T a x=>exact absurd h a1m
 |insert T a k x=>exact absurd h alz
 |mapUpdate T a k x=>exact absurd h alz
 |mapEntry T a k=>exact absurd h ax2
 |entryStore T a k x=>exact absurd h asc
 |makeMap T r=>exact absurd h a0p
 |range T x=>simp only[ac]at h;unfold aku at h;grind
 |next x b=>simp only[ac]at h;unfold aqt at h;grind
 |entry x=>simp only[ac]at h ⊢;unfold am0 at h ⊢;grind
 |alloc T=>simp only[ac,aic]at h;grind
 |box T x=>simp only[ac,awz,As]at h;grind
 |makeSlice T n c=>simp only[ac,adr,afg,As]at h;grind
 |_=>exact h
theorem azn{m:Call}{o:Operand->SV}{P:Program}{st st':List BX}{f:FuncId}{args:List SV}(h:aj3 m o P st=.call f args):aj3 m o P st'=.call f args:=by
 unfold aj3 at h ⊢;split at h
 ·exact h
 ·exact h
 ·exfalso;split at h
  ·unfold au7 at h;all_goals grind
  ·cases h
 ·exfalso;split at h
  ·rename_i x y T t _ _;cases z:Nat.beq T t with
   |false=>all_goals grind
   |true=>rw[z]at h;simp only[Ad]at h;exact absurd h auc
  ·cases h
 all_goals grind[absurd,a5a]
theorem a3q{R:Type}{C:Cfg}(hC:acx C){ops:Array Oper}{o:Oper}{e:Env}{s0:List BX}{K:SV->Option R}{r:R}(h:opW C ops o e s0 K=some r):∃v,(∀(st:List BX)(m:Nat),st.take m=s0->StepV C ops o e st v st)/\K v=some r:=by
 have W:∀{ρ ρt ρf:Operand->SV}{f:FuncId}{args:List SV},an4 o.op=true->ac C.P o.op ρ ρt ρf s0=.call f args->∀st,ac C.P o.op ρ ρt ρf st=.call f args:=by
  intro ρ ρt ρf f args M ha st;unfold an4 at M;split at M
  ·rename_i cl ab;rw[ab]at ha ⊢;exact azn ha
  ·cases M
 unfold opW at h;split at h
 ·rename_i X;split at h
  ·rename_i c v z;cases c with
   |false=>cases h
   |true=>exact⟨v,λst m hs=>by subst hs;exact .val X (apa z),h⟩
  ·rename_i f args z;cases M:an4 o.op with
   |false=>grind
   |true=>
    rw[M]at h;simp only[Ad]at h;split at h
    ·rename_i as O Y;obtain⟨rs,V,H,hm⟩:=(hC R true f as [] _ r h).1 rfl;split at H;case h_2=>cases H
     rename_i ae G;obtain⟨J,H⟩:=ad3 H;refine⟨_,λst m _=>?_,H⟩;have U:=aiw (st':=st) O;have:=StepV.call (ops:=ops) (e:=e) (st:=st) (sub:=[]) X (W M z st) (by grind[agz]) (by rw[U];rfl) hm (by rw[U];exact afo G st) J;grind[ab2]
    ·cases h
  ·cases h
 ·rename_i j ag X;split at h
  ·cases h
  ·rename_i t ht;split at h
   ·cases h
   ·rename_i b Z;split at h
    ·rename_i c v z;cases aa:imp b c with
     |false=>grind
     |true=>rw[aa]at h;exact⟨_,λst m ad=>by subst ad;exact .gval X ht Z (apa z) aa,h⟩
    ·rename_i f args z;cases M:an4 o.op with
     |false=>grind
     |true=>
      rw[M]at h;simp only[Ad]at h;split at h
      ·rename_i as O Y;obtain⟨h1,ah,af,I⟩:=hC R b f as [] _ r h;cases b with
       |true=>
        obtain⟨rs,V,H,hm⟩:=h1 rfl;split at H;case h_2=>cases H
        rename_i ae G;obtain⟨J,H⟩:=ad3 H;exact⟨_,λst m _=>.gcall X ht Z (W M z st) (aiw O) (by grind[agz]) (λ_=>⟨rs,V,hm,G⟩) J,H⟩
       |false=>
        split at I;case h_2=>cases I
        obtain⟨J,I⟩:=ad3 I;exact⟨_,λst m _=>.gcall X ht Z (W M z st) (aiw O) (by rw[agz st s0];exact Y) (λZ=>by cases Z) J,I⟩
      ·cases h
    ·cases h
section
variable{Γ:Ctx}
theorem awe{D:Dom}{ow:Own}{μ:Nat->Nat}{e:Env}{st st':List BX}{a:Act}{w:World}{C:Cfg}(Y:Γ.n=C.n)(Z:Slots Γ D ow μ e st a w){o:Oper}(W:asb C.n o.dst=true)(V:∀d,o.dst=some d->a4i e d){v:SV}{r:Result Next}
 (h:OpRes Γ D ow μ st w r v st') (s:SV) (G:∀(D':Dom)(w':World)(m:Own)(z:Nat->Nat)(u:Value),SRep Γ.P D' w' m z st' v u->SlotRep Γ.P D' w' m z st' a s u) (J:∀t H x,s=.gd t H x->o.dst≠some t)
 (next:Act->World->Prop) (Q:Exit->Act->World->Prop) (I:∀M w',Rel Γ (put e o.dst s) st' M w'->next M w'):o.upon Γ.P a next Q r:=by
 obtain⟨u,w',D',m,z,hr,hw,X,hv⟩:=h
 have O:Rel Γ (put e o.dst s) st' (a.put o.dst u) w':=by refine⟨D',m,z,hw,(Z.mono X).put o.dst s u (λx U=>⟨by rw[Y];exact agf W x U,V x U⟩) (G _ _ _ _ _ hv) J⟩
 grind[Oper.upon_value,Oper.upon_skip]
theorem at4{C:Cfg}(hP:C.P=Γ.P)(hn:Γ.n=C.n){ops:Array Oper}{i:Nat}{o:Oper}(ho:ops[i]?=some o){e eF:Env}{st st':List BX}{v:SV}(h:StepV C ops o e st v st')(hd:asb C.n o.dst=true)
 (aC:∀t,e t=.undef\/e t=eF t) {a:Act}{w:World} (az:Rel Γ eF st a w) (hc:∀d,o.dst=some d->a4i eF d) (au:∀j m t,o.guard=some (j,m)->(ops[j]?).bind (·.dst)=some t->o.dst≠some t)
 (next:Act->World->Prop) (Q:Exit->Act->World->Prop) (H:(∀u m x,v=.gd u m x->∃j,o.guard=some (j,m)/\(ops[j]?).bind (·.dst)=some u)->∀a' w',Rel Γ (put eF o.dst v) st' a' w'->next a' w'):wpOp Γ.P ops Q i next a w:=by
 obtain⟨D,ow,μ,hw,hs⟩:=az
 have V:Slots Γ D ow μ e st a w:=⟨hs.size,hs.defers,λt=>by
  rcases aC t with h|h
  ·rw[h];exact .undef
  ·rw[h];exact hs.slot t⟩
 unfold wpOp
 simp only[ho]
 have ay:∀f,a.eval (.func f)=.func (.func f) #[] #[]:=λf=>rfl
 have av:∀x,SRep Γ.P D w ow μ st (opd e [] x) (a.eval x):=λx=>aby V [] (λ_ W=>by cases W) x
 have al:∀(gs:List (Nat×Bool)),(∀z,z∈gs->a.tmps.getD z.1 Go.undef=.bool z.2)->∀c x y,o.op=.pick c x y->(a.eval c=.bool true->SRep Γ.P D w ow μ st (ρT e gs o.op true x) (a.eval x))/\(a.eval c=.bool false->SRep Γ.P D w ow μ st (ρT e gs o.op false y) (a.eval y)):=by
  intro gs aF c x y aD;rw[aD];refine⟨λhc=>?_,λhc=>?_⟩
  ·cases c with
   |tmp t=>exact aby V ((t,true)::gs) (λz hz=>by
    rcases Bi.1 hz with rfl|hz
    ·exact hc
    all_goals grind) x
   |_=>exact av x
  ·cases c with
   |tmp t=>exact aby V ((t,false)::gs) (λz hz=>by
    rcases Bi.1 hz with rfl|hz
    ·exact hc
    all_goals grind) y
   |_=>exact av y
 have plain:∀{r:Result Next},OpRes Γ D ow μ st w r v st'->o.upon Γ.P a next Q r:=by
  intro r ah;have ak:∀t m x,v≠.gd t m x:=by intro t m x hv;obtain⟨u,w',D',aH,aI,_,_,_,aE⟩:=ah;subst hv;cases aE
  exact awe hn hs hd hc ah v (λ_ _ _ _ _ h=>h.slot) (λt m x hv=>absurd hv (ak t m x)) next Q (H λu m x hv=>absurd hv (ak u m x))
 cases h with
 |val hg I=>
  have O:Region.wanted o (yielded ops a.tmps)=true:=by simp[Region.wanted,hg]
  simp only[O,A8]
  refine Or.inl ?_
  unfold Oper.wp
  rw[hP]at I
  exact plain (afn hw av o (al [] (λ_ W=>by cases W)) v I)
 |upd hg I=>
  have O:Region.wanted o (yielded ops a.tmps)=true:=by simp[Region.wanted,hg]
  simp only[O,A8]
  all_goals grind[Oper.wp,anu]
 |@call f args as rs aq sub aw bs hg I aj am hm M ad=>
  have O:Region.wanted o (yielded ops a.tmps)=true:=by simp[Region.wanted,hg]
  simp only[O,A8]
  refine Or.inl ?_
  unfold Oper.wp
  rw[hP]at I hm
  obtain⟨ag,ae,an,J⟩:=ab9 av ay o f args I
  rw[ae,hm.1 ag w,Oper.upon_enter]
  refine(adx hw (ad5 _ _) am aj an J hm M).mono λen w'⟨v,D',ap,ar,he,h1,h2,h3⟩=>?_
  rcases acd h3 with⟨s,e,_⟩|⟨_,h3,aa⟩
  ·all_goals grind
  rw[aa]at he
  subst he
  have ak:∀t m x,adk aq≠.gd t m x:=by intro t m x hv;rw[hv]at h3;cases h3
  exact H (λu m x hv=>absurd hv (ak u m x)) _ _ ⟨D',ap,ar,h1,(hs.mono h2).put o.dst _ v (λx W=>⟨by rw[hn];exact agf hd x W,hc x W⟩) h3.slot (λt m x U=>absurd U (ak t m x))⟩
 |@gval j t m b c v hg ht hb I hi=>
  have X:=agk V 8 t m b hb
  have ai:=ag1 (tmps:=a.tmps) hg ht
  have ax:=au j m t hg ht
  have Y:∀u G x,SV.gd t m v=.gd u G x->∃j,o.guard=some (j,G)/\(ops[j]?).bind (·.dst)=some u:=by all_goals grind
  cases b with
  |false=>
   have ad:a.tmps.getD t Go.undef≠.bool m:=λU=>by grind
   have ao:Region.wanted o (yielded ops a.tmps)=false:=by grind
   simp only[ao,A3,A9]
   exact H Y _ _ ⟨D,ow,μ,hw,hs.put o.dst _ Go.undef (λx W=>⟨by rw[hn];exact agf hd x W,hc x W⟩) ⟨λU=>absurd U ad,λ_=>rfl⟩ (λu G x U Z=>by grind)⟩
  |true=>
   have ab:a.tmps.getD t Go.undef=.bool m:=X.2 rfl
   have O:Region.wanted o (yielded ops a.tmps)=true:=ai.2 ab
   simp only[O,A8]
   refine Or.inl ?_
   unfold Oper.wp
   have aB:c=true:=by grind[imp]
   subst aB
   rw[hP]at I
   have af:∀x,SRep Γ.P D w ow μ st (opd e [(t,m)] x) (a.eval x):=λx=>aby V [(t,m)] (λz hz=>by grind) x
   have ah:=afn hw af o (al [(t,m)] (λz hz=>by grind)) v I
   exact awe hn hs hd hc ah (.gd t m v) (λ_ _ _ _ _ h=>⟨λ_=>h,λU=>absurd ab U⟩) (λu G x U Z=>by grind) next Q (H Y)
 |@gcall j t m b f args as aq hg ht hb I aG aj hm ad=>
  have X:=agk V 8 t m b hb
  have ai:=ag1 (tmps:=a.tmps) hg ht
  have ax:=au j m t hg ht
  have Y:∀u G x,SV.gd t m (adk aq)=.gd u G x->∃j,o.guard=some (j,G)/\(ops[j]?).bind (·.dst)=some u:=by grind
  cases b with
  |false=>
   have ad:a.tmps.getD t Go.undef≠.bool m:=λU=>by grind
   have ao:Region.wanted o (yielded ops a.tmps)=false:=by grind
   simp only[ao,A3,A9]
   exact H Y _ _ ⟨D,ow,μ,hw,hs.put o.dst _ Go.undef (λx W=>⟨by rw[hn];exact agf hd x W,hc x W⟩) ⟨λU=>absurd U ad,λ_=>rfl⟩ (λu G x U Z=>by grind)⟩
  |true=>
   have ab:a.tmps.getD t Go.undef=.bool m:=X.2 rfl
   have O:Region.wanted o (yielded ops a.tmps)=true:=ai.2 ab
   simp only[O,A8]
   refine Or.inl ?_
   unfold Oper.wp
   obtain⟨rs,aw,hm,M⟩:=hm rfl
   rw[hP]at I hm
   have af:∀x,SRep Γ.P D w ow μ st (opd e [(t,m)] x) (a.eval x):=λx=>aby V [(t,m)] (λz hz=>by grind) x
   obtain⟨ag,ae,an,J⟩:=ab9 af ay o f args I
   rw[ae,hm.1 ag w,Oper.upon_enter]
   refine(adx hw (ks:=[]) (by simp) (sub:=[]) rfl aj an J hm (afo M st)).mono λen w'⟨v,D',ap,ar,he,h1,h2,h3⟩=>?_
   rcases acd h3 with⟨s,e,_⟩|⟨_,h3,aa⟩
   ·grind
   rw[aa]at he
   subst he
   have aA:ab2 [] [] st=st:=by simp[ab2]
   rw[aA]at h1 h2 h3
   exact H Y _ _ ⟨D',ap,ar,h1,(hs.mono h2).put o.dst _ v (λx W=>⟨by rw[hn];exact agf hd x W,hc x W⟩) ⟨λ_=>h3,λU=>absurd ab U⟩ (λu G x U Z=>by grind)⟩
 |@gcallU j t m f args as rs aq sub aw bs hg ht hb I aj am hm M ad=>
  have X:=agk V 8 t m true hb
  have ai:=ag1 (tmps:=a.tmps) hg ht
  have ax:=au j m t hg ht
  have Y:∀u G x,SV.gd t m (adk aq)=.gd u G x->∃j,o.guard=some (j,G)/\(ops[j]?).bind (·.dst)=some u:=by grind
  have ab:a.tmps.getD t Go.undef=.bool m:=X.2 rfl
  have O:Region.wanted o (yielded ops a.tmps)=true:=ai.2 ab
  simp only[O,A8]
  refine Or.inl ?_
  unfold Oper.wp
  rw[hP]at I hm
  have af:∀x,SRep Γ.P D w ow μ st (opd e [(t,m)] x) (a.eval x):=λx=>aby V [(t,m)] (λz hz=>by grind) x
  obtain⟨ag,ae,an,J⟩:=ab9 af ay o f args I
  rw[ae,hm.1 ag w,Oper.upon_enter]
  refine(adx hw (ad5 _ _) am aj an J hm M).mono λen w'⟨v,D',ap,ar,he,h1,h2,h3⟩=>?_
  rcases acd h3 with⟨s,e,_⟩|⟨_,h3,aa⟩
  ·grind
  rw[aa]at he
  subst he
  exact H Y _ _ ⟨D',ap,ar,h1,(hs.mono h2).put o.dst _ v (λx W=>⟨by rw[hn];exact agf hd x W,hc x W⟩) ⟨λ_=>h3,λU=>absurd ab U⟩ (λu G x U Z=>by grind)⟩
 |@gskip j t m f args x hg ht hb I=>
  have X:=agk V 8 t m false hb
  have ai:=ag1 (tmps:=a.tmps) hg ht
  have ax:=au j m t hg ht
  have Y:∀u G y,SV.gd t m x=.gd u G y->∃j,o.guard=some (j,G)/\(ops[j]?).bind (·.dst)=some u:=by grind
  have ad:a.tmps.getD t Go.undef≠.bool m:=λU=>by grind
  have ao:Region.wanted o (yielded ops a.tmps)=false:=by grind
  simp only[ao,A3,A9]
  exact H Y _ _ ⟨D,ow,μ,hw,hs.put o.dst _ Go.undef (λx W=>⟨by rw[hn];exact agf hd x W,hc x W⟩) ⟨λU=>absurd U ad,λ_=>rfl⟩ (λu G x U Z=>by grind)⟩
theorem a1l{C:Cfg}(hP:C.P=Γ.P){ops:Array Oper}{i:Nat}{o:Oper}(ho:ops[i]?=some o){e eF:Env}{st st':List BX}{s:SV}(h:bg7 C o e st s st')
 (V:∀t,e t=.undef\/e t=eF t) {a:Act}{w:World} (H:Rel Γ eF st a w) (next:Act->World->Prop) (Q:Exit->Act->World->Prop)
 (hX:∀v a' w',PRel Γ s st' v a' w'->Q (.panic [{ v,recovered:=false }]) a' w'):wpOp Γ.P ops Q i next a w:=by
 obtain⟨D,ow,μ,hw,O⟩:=H
 obtain⟨hg,f,args,as,rs,sub,af,bs,G,U,J,W,z,rfl⟩:=h
 have X:Slots Γ D ow μ e st a w:=⟨O.size,O.defers,λt=>by
  rcases V t with h|h
  ·rw[h];exact .undef
  ·rw[h];exact O.slot t⟩
 have ab:∀x,SRep Γ.P D w ow μ st (opd e [] x) (a.eval x):=λx=>aby X [] (λ_ hx=>by cases hx) x
 have aa:∀f,a.eval (.func f)=.func (.func f) #[] #[]:=λf=>rfl
 unfold wpOp
 simp only[ho]
 have Z:Region.wanted o (yielded ops a.tmps)=true:=by simp[Region.wanted,hg]
 simp only[Z,A8]
 refine Or.inl ?_
 unfold Oper.wp
 rw[hP]at G W
 obtain⟨M,I,Y,m⟩:=ab9 ab aa o f args G
 rw[I,W.1 M w,Oper.upon_enter]
 refine(adx hw (ad5 _ _) J U Y m W z).mono λen w'⟨v,D',ad,ae,he,h1,h2,h3⟩=>?_
 subst he
 exact hX v a w' ⟨O.defers,D',ad,ae,h1,h3⟩
end
end Go.Ab
namespace Go.Ab
open Go
inductive Anc(ops:Array Oper):Nat->Nat->Prop
 |edge {j:Nat}{o:Oper}{x:Edge}:ops[j]?=some o->x∈o.after->Region.binds .any x=true->Anc ops x.on j
 |step {i j:Nat}{o:Oper}{x:Edge}:ops[j]?=some o->x∈o.after->Region.binds .any x=true->Anc ops i x.on->Anc ops i j
theorem axc{acc:List Nat}{i:Nat}:∀{es:List Edge},Nat.testBit (ahd acc es) i=true->∃x,x∈es/\Region.binds .any x=true/\(i=x.on\/Nat.testBit (acc.getD x.on 0) i=true):=by
 intro es;induction es with
 |nil=>grind[ahd]
 |cons x r m=>intro h;unfold ahd at h;grind
theorem a7v{ops:Array Oper}:∀(l:List Oper)(acc:List Nat),ops.toList.drop acc.length=l->(∀j i,Nat.testBit (acc.getD j 0) i=true->Anc ops i j)->∀j i,Nat.testBit ((ancL l acc).getD j 0) i=true->Anc ops i j:=by
 intro l;induction l with
 |nil=>intro acc _ h;exact h
 |cons o r O=>
  intro acc J h;unfold ancL;have M:ops[acc.length]?=some o:=by
   have:(ops.toList.drop acc.length)[0]?=some o:=by rw[J];rfl
   simpa using this
  have G:ops.toList.drop (acc.length+1)=r:=by
   have:(ops.toList.drop acc.length).drop 1=r:=by rw[J];rfl
   grind[List.drop_drop]
  refine O _ (by simpa using G) (λj i U=>?_);by_cases V:j<acc.length
  ·grind
  ·by_cases z:j=acc.length
   ·subst z;have t:Nat.testBit (ahd acc o.after.toList) i=true:=by grind
    obtain⟨x,H,I,m⟩:=axc t;rcases m with rfl|m
    ·exact .edge M (by simpa using H) I
    ·exact .step M (by simpa using H) I (h _ _ m)
   grind
theorem ax1{ops:Array Oper}{i j:Nat}(h:(mkDI ops).lt i j=true):i<j/\Anc ops i j:=by unfold DI.lt at h;simp only[Ai]at h;refine⟨At h.1,a7v ops.toList [] (by simp) (λj i m=>by simp at m) j i h.2⟩
def Down(ops:Array Oper)(L:Array Bool):Prop:=∀j,L.getD j false=true->∀o,ops[j]?=some o->∀x,x∈o.after->Region.binds .any x=true->L.getD x.on false=true
theorem a7w{ops:Array Oper}{L:Array Bool}(G:Down ops L){i j:Nat}(h:Anc ops i j)(H:∀o,ops[j]?=some o->∀x,x∈o.after->Region.binds .any x=true->L.getD x.on false=true):L.getD i false=true:=by
 induction h with
 |edge t z m=>grind
 |step t z m _ I=>exact I (G _ (H _ t _ z m))
theorem a1z{t:Nat}:∀{l:List Oper}{k i:Nat},ac0 t l k=some i->k<=i/\∃o,l[i-k]?=some o/\o.dst=some t:=by
 intro l;induction l with
 |nil=>grind[ac0]
 |cons o r H=>
  intro k i h;have next:ac0 t r (k+1)=some i->k<=i/\∃m,(o::r)[i-k]?=some m/\m.dst=some t:=by grind
  unfold ac0 at h;split at h
  ·rename_i d G;cases z:Nat.beq d t with
   |true=>simp_all
   |false=>grind
  ·exact next h
theorem ax4:∀{l:List Nat},a3o l=true->l.Nodup:=by
 intro l;induction l with
 |nil=>intro _;simp
 |cons x r m=>intro h;simp only[a3o,Ai,Bool.not_eq_true']at h;grind[List.nodup_cons,Nat.beq,List.any_eq_true,Nat.beq_refl]
theorem bcy{t:Nat}:∀{l:List Oper}{k i:Nat}{o:Oper},(dsts l).Nodup->l[i]?=some o->o.dst=some t->ac0 t l k=some (k+i):=by
 intro l;induction l with
 |nil=>grind
 |cons x r H=>
  intro k i o z h m;have G:(dsts r).Nodup:=by grind[dsts,List.nodup_cons]
  cases i with
  |zero=>simp at h;subst h;unfold ac0;simp[m]
  |succ i=>grind[dsts,List.mem_of_getElem?,ac0,Nat.beq,Nat.eq_of_beq_eq_true,absurd,List.nodup_cons]
theorem aex{f:Nat->Oper->Bool}:∀{l:List Oper}{k:Nat},amt f l k=true->∀i o,l[i]?=some o->f (k+i) o=true:=by
 intro l;induction l with
 |nil=>grind
 |cons x r t=>intro k h i o m;simp only[amt,Ai]at h;grind
theorem axd:∀{l:List Oper}{k:Nat},auo l k=true->∀i o,l[i]?=some o->∀x,x∈o.after->Region.binds .any x=true->x.on<k+i:=by
 intro l;induction l with
 |nil=>grind
 |cons y r G=>
  intro k h i o m x t z;simp only[auo,Ai,Bd]at h;cases i with
  |zero=>simp at m;subst m;have:=h.1 x (by simpa using t);simp_all
  |succ i=>grind
structure DStep(C:Cfg)(d:DI)(ops:Array Oper)(n0 j:Nat)(o:Oper)(e:Env)(st:List BX)(v:SV)(st':List BX)(lk lk':List LM):Prop where
 dst:asb C.n o.dst=true
 gd:gdOk d j o=true
 upd:d.upd j o=true->(bif adp o.op then d.isN j else d.isA j)=true/\n0<=st.length/\n0<=st'.length/\(d.soft o=true->baw n0 o (d.mask j e)=true)/\StepV C ops o (d.mask j e) st v st'
 non:d.upd j o=false->st'=st/\∀st2,(d.isA j=true->st2=st)->(d.isA j=false->st2.take (bif d.isB j then n0 else 0)=st.take (bif d.isB j then n0 else 0))->lmOf d n0 j o (d.mask j e) lk=none->StepV C ops o (d.mask j e) st2 v st2
 lm:∀p,d.upd j o=false->lmOf d n0 j o (d.mask j e) lk=some p->rdAc C.P p st=.val true v/\{ p with v:=v }∈lk'
 log:∀p,p∈lk'->p.u=true->p∈lk\/(p.j=j/\d.upd j o=true/\p.f=λk=>akr C o (d.mask j e) st k)
 sub:∀p,p∈lk->p∈lk'
 ok:d.upd j o=true->∀p,p∈lk->p.u=false->d.cmp p.j j=false->(adp o.op||d.soft o)=true\/akr C o (d.mask j e) st p.k=true\/rdAc C.P p st'=.val true p.v\/(p.q.isSome=true/\au3 o.op=true)
structure DPan(C:Cfg)(d:DI)(n0 j:Nat)(o:Oper)(e:Env)(st:List BX)(sp:SV)(st':List BX):Prop where
 upd:d.upd j o=true
 ext:adp o.op=false
 isA:d.isA j=true
 last:d.last j=true
 len:n0<=st.length
 step:bg7 C o (d.mask j e) st sp st'
theorem ays{a:Ac}{v:SV}(h:a1g a v=true):a=.val true v:=by unfold a1g at h;split at h;all_goals simp_all
theorem axu{d:DI}{H j:Nat}{o:Oper}{e:Env}{G:List LM}{p:LM}(h:lmOf d H j o e G=some p):o.guard=none/\(an4 o.op=false/\∀(P:Program)(ρt ρf:Operand->SV)(st:List BX),ac P o.op (opd e []) ρt ρf st=rdAc P p st)/\bbj p=some p.k/\p.k<H/\p.j=j/\d.isA j=false/\p.u=false/\
 amt (λi x=>!(d.upd i x)||Nat.ble j i||d.cmp i j||axv G i p.k) d.l 0=true:=by
 unfold lmOf at h
 split at h
 ·rename_i T a I z;split at h
  ·rename_i k J;cases t:(Nat.blt k H&&!(d.isA j)&&!(d.isB j)&&amt (λi x=>!(d.upd i x)||Nat.ble j i||d.cmp i j||axv G i k) d.l 0)with
   |false=>grind
   |true=>rw[t]at h;simp only[Ad,Aj]at h;subst h;simp only[Ai,Bool.not_eq_true']at t;exact⟨I,⟨by rw[z];rfl,λP ρt ρf st=>by rw[z];rfl⟩,J,At t.1.1.1,rfl,t.1.1.2,rfl,t.2⟩
  ·cases h
 ·rename_i T m x I z;split at h
  ·rename_i k J;cases t:(Nat.blt k H&&!(d.isA j)&&!(d.isB j)&&amt (λi x=>!(d.upd i x)||Nat.ble j i||d.cmp i j||axv G i k) d.l 0)with
   |false=>grind
   |true=>rw[t]at h;simp only[Ad,Aj]at h;subst h;simp only[Ai,Bool.not_eq_true']at t;exact⟨I,⟨by rw[z];rfl,λP ρt ρf st=>by rw[z];show ac6 P T st (opd e [] m) (opd e [] x) false=_;rw[J];rfl⟩,rfl,At t.1.1.1,rfl,t.1.1.2,rfl,t.2⟩
  ·cases h
 ·cases h
theorem bk9{R:Type}{C:Cfg}{ops:Array Oper}{o:Oper}{e:Env}{st:List BX}{K:SV->Option R}{r:R}{p:LM}(h:opW C ops o e st K=some r)(z:o.guard=none)(t:an4 o.op=false)(m:∀(P:Program)(ρt ρf:Operand->SV)(st:List BX),ac P o.op (opd e []) ρt ρf st=rdAc P p st):∃v,rdAc C.P p st=.val true v/\K v=some r:=by grind[opW]
theorem a6x{R:Type}{C:Cfg}(hC:acx C){d:DI}{ops:Array Oper}{U:Nat}{r:R}{K:Env->List BX->Option R}{X:SV->List BX->Option R}:∀(l:List Oper)(j:Nat)(e:Env)(st:List BX)(G:List LM),runD C d ops U l j e st G K X=some r->
 ∃(N:Nat)(v:Nat->SV)(s:Nat->List BX)(E:Nat->Env)(LK:Nat->List LM),s j=st/\E j=e/\LK j=G/\N<=l.length/\(∀i o,i<N->l[i]?=some o->DStep C d ops U (j+i) o (E (j+i)) (s (j+i)) (v (j+i)) (s (j+i+1)) (LK (j+i)) (LK (j+i+1))/\E (j+i+1)=put (E (j+i)) o.dst (v (j+i)))/\
  ((N=l.length/\K (E (j+N)) (s (j+N))=some r)\/∃o W st',l[N]?=some o/\DPan C d U (j+N) o (E (j+N)) (s (j+N)) W st'/\X W st'=some r):=by
 intro l
 induction l with
 |nil=>intro j e st G h;exact⟨0,λ_=>.undef,λ_=>st,λ_=>e,λ_=>G,rfl,rfl,rfl,by simp,λi o _ h=>by simp at h,Or.inl ⟨rfl,h⟩⟩
 |cons o l ih=>
  intro j e st G h
  unfold runD at h
  cases O:(asb C.n o.dst&&gdOk d j o)with
  |false=>grind
  |true=>
   rw[O]at h
   simp only[Ad]at h
   simp only[Ai]at O
   have key:(∃v0 st' ab,DStep C d ops U j o e st v0 st' G ab/\runD C d ops U l (j+1) (put e o.dst v0) st' ab K X=some r)\/∃W st',DPan C d U j o e st W st'/\X W st'=some r:=by
    cases J:d.upd j o with
    |true=>
     rw[J]at h;simp only[Ad]at h;cases Y:((bif adp o.op then d.isN j else d.isA j)&&Nat.ble U st.length&&(!(d.soft o)||baw U o (d.mask j e)))with
     |false=>grind
     |true=>
      rw[Y]at h;simp only[Ad]at h;simp only[Ai,A7,Bool.not_eq_true']at Y;obtain⟨⟨aa,ad⟩,ak⟩:=Y;rcases be7 hC h with⟨v0,st',Z,t⟩|⟨W,st',Z,t⟩
      ·refine Or.inl ?_;cases H:(Nat.ble U st'.length&&lmOk C d j o (d.mask j e) st st' G)with
       |false=>grind
       |true=>
        rw[H]at t;simp only[Ai]at H;refine⟨v0,st',_,⟨O.1,O.2,λ_=>⟨aa,At ad,At H.1,λhx=>?_,Z⟩,λm=>absurd m (by rw[J];decide),λp m=>absurd m (by rw[J];decide),λp hp _=>?_,λp hp=>List.mem_append_left _ hp,λ_ p hp ae af=>?_⟩,t⟩
        ·grind
        ·grind
        ·have V:=Bd.1 H.2 p hp;rw[af,ae]at V;simp only[Bool.false_or,A7]at V;rcases V with(((V|V)|V)|V)|V
         ·grind
         ·grind
         ·grind
         ·grind[ays]
         grind
      ·refine Or.inr ⟨W,st',?_⟩;cases H:(d.last j&&!(adp o.op))with
       |false=>grind
       |true=>rw[H]at t;simp only[Ai,Bool.not_eq_true']at H;rw[H.2]at aa;exact⟨⟨J,H.2,aa,H.1,At ad,Z⟩,t⟩
    |false=>
     rw[J]at h;simp only[Af]at h;refine Or.inl ?_;cases I:lmOf d U j o (d.mask j e) G with
     |some p=>rw[I]at h;simp only at h;obtain⟨ag,⟨ah,ai⟩,_,_,_,am,ae,_⟩:=axu I;obtain⟨v0,H,t⟩:=bk9 h ag ah ai;refine⟨v0,st,_,⟨O.1,O.2,λm=>absurd m (by rw[J];decide),λ_=>⟨rfl,λM _ _ hn=>?_⟩,λq _ z=>?_,λq z an=>?_,λq z=>List.mem_append_left _ z,λm=>absurd m (by rw[J];decide)⟩,t⟩;all_goals grind
     |none=>
      rw[I]at h;simp only at h;cases Y:d.isA j with
      |true=>rw[Y]at h;simp only[Ad]at h;obtain⟨v0,Z,t⟩:=a3q hC h;refine⟨v0,st,G,⟨O.1,O.2,λm=>absurd m (by rw[J];decide),λ_=>⟨rfl,λM h1 _ _=>?_⟩,λq _ z=>absurd z (by rw[I];simp),λ_ z _=>Or.inl z,λ_ z=>z,λm=>absurd m (by rw[J];decide)⟩,t⟩;exact Z M M.length (by rw[List.take_length,h1 Y])
      |false=>rw[Y]at h;simp only[Af]at h;obtain⟨v0,Z,t⟩:=a3q hC h;exact⟨v0,st,G,⟨O.1,O.2,λm=>absurd m (by rw[J];decide),λ_=>⟨rfl,λM _ h1 _=>Z M _ (h1 Y)⟩,λq _ z=>absurd z (by rw[I];simp),λ_ z _=>Or.inl z,λ_ z=>z,λm=>absurd m (by rw[J];decide)⟩,t⟩
   rcases key with⟨v0,st',ab,Z,t⟩|⟨W,st',hp,t⟩
   ·obtain⟨N,v,s,E,LK,h1,h2,aj,hN,V,h4⟩:=ih (j+1) _ _ _ t;refine⟨N+1,λi=>if i=j then v0 else v i,λi=>if i=j then st else s i,λi=>if i=j then e else E i,λi=>if i=j then G else LK i,by simp,by simp,by simp,by simpa using hN,λi x al hi=>?_,?_⟩
    ·cases i with
     |zero=>grind
     |succ i=>grind
    grind
   ·exact⟨0,λ_=>.undef,λ_=>st,λ_=>e,λ_=>G,rfl,rfl,rfl,by simp,λi o h=>by omega,Or.inr ⟨o,W,st',rfl,hp,t⟩⟩
end Go.Ab
namespace Go.Ab
open Go
theorem ao9{P:Program}{o:Op}{t ρt ρf:Operand->SV}{st:List BX}(m:adp o=true):ac P o t ρt ρf st=match extV P o t st.length with|some (v,b)=>.upd true v (st++[b])|none=>.fail:=by
 unfold adp at m;split at m
 ·rename_i T;simp only[ac,aic,extV];grind
 ·rename_i T x;simp only[ac,awz,extV];grind
 ·rename_i T r;simp only[ac,aej,extV];grind
 ·cases m
theorem aur{C:Cfg}{ops:Array Oper}{o:Oper}{e:Env}{st st':List BX}{v:SV}(H:adp o.op=true)(h:StepV C ops o e st v st'):o.guard=none/\∃b,st'=st++[b]/\extV C.P o.op (opd e []) st.length=some (v,b):=by
 cases h with
 |val t m=>grind[ao9]
 |gval t G z m=>grind[ao9]
 |gcall t G z m=>grind[ao9]
 |gcallU t G z m=>grind[ao9]
 |gskip t G z m=>grind[ao9]
 |call t m=>grind[ao9]
 |upd t m=>grind[ao9]
theorem a2v{C:Cfg}{ops:Array Oper}{o:Oper}{e:Env}{st st':List BX}{v:SV}{m:Nat}(t:adp o.op=true)(h:StepV C ops o e st v st')(z:m<=st.length):st'.take m=st.take m:=by obtain⟨_,b,rfl,_⟩:=aur t h;all_goals grind
theorem ah1{P:Program}{T:TypeId}{a x:Operand}{m ρt ρf:Operand->SV}{st:List BX}{f:FuncId}{args:List SV}(h:ac P (.store T a x) m ρt ρf st=.call f args):False:=by
 simp only[ac,aep,ad8,As]at h;repeat' split at h
 all_goals grind
theorem ayw{C:Cfg}{ops:Array Oper}{o:Oper}{e:Env}{st st':List BX}{v:SV}{z:Nat}(t:baw z o e=true)(h:StepV C ops o e st v st'):st'.take z=st.take z:=by
 unfold baw at t;split at t;case h_2=>cases t
 rename_i T a x G;split at t;case h_2=>cases t
 rename_i k p J I;have O:z<=k:=At t;cases h with
 |val=>rfl
 |gval=>rfl
 |gcall=>rfl
 |upd H m=>
  rw[G]at m;simp only[ac,aep,ad8,I,As]at m;repeat' split at m
  all_goals first
   |(cases m;done)
   |(
    obtain⟨_,_,rfl⟩:=Ac.upd.inj m
    apply List.ext_getElem?
    grind)
 |gskip=>rfl
 |gcallU H U M m=>grind[ah1]
 |call H m=>grind[ah1]
theorem a4q:∀(ks:List Nat)(bs st:List BX)(k:Nat),k∉ks->k<st.length->(ab2 ks bs st)[k]?=st[k]?:=by
 intro ks;induction ks with
 |nil=>grind[ab2,List.getElem?_append_left]
 |cons x r t=>
  intro bs st k o m;cases bs with
  |nil=>rfl
  |cons b q=>grind[ab2,List.getElem?_set_ne]
theorem al4{C:Cfg}{ops:Array Oper}{o:Oper}{e:Env}{st st':List BX}{v:SV}{k:Nat}(hk:k<st.length)(h:StepV C ops o e st v st')(t:akr C o e st k=true):st'[k]?=st[k]?:=by
 unfold akr at t;cases h with
 |val=>rfl
 |gval=>rfl
 |gcall=>rfl
 |gskip=>rfl
 |gcallU U=>grind
 |upd U m=>
  rw[U]at t;have t:(match(none:Option (Nat×Bool)),ac C.P o.op (opd e []) (ρT e [] o.op true) (ρT e [] o.op false) st with|none,.call _ args=>!((aau st args).any (Nat.beq k))|none,.upd _ _ _=>a3p o.op e k|_,_=>false)=true:=t;rw[m]at t;simp only at t;unfold a3p at t;split at t;case h_3=>cases t
  case h_2=>
   rename_i c H
   split at t
   case h_2=>cases t
   rename_i x y I G
   rw[H]at m
   simp only[ac,aj3,I,G]at m
   split at m
   case h_2=>cases m
   rename_i x' y' T W J aa
   simp only[List.cons.injEq,and_true]at J
   obtain⟨rfl,rfl⟩:=J
   cases Y:Nat.beq T W with
   |false=>grind
   |true=>
   rw[Y]at m
   simp only[Ad]at m
   have put:∀(j:Nat)(b:BX),(!(Nat.beq j k))=true->(st.set j b)[k]?=st[k]?:=λj b hb=>Ay (λe=>by simp_all)
   have X:∀(b:BX),(st++[b])[k]?=st[k]?:=λb=>A1 hk
   rw[Ai]at t
   obtain⟨M,t⟩:=t
   have O:acq C.P st T (opd e [] x) (opd e [] y)=acy C.P st T (opd e [] x) (opd e [] y):=by
    unfold acq;split
    ·rename_i hy;rw[hy]at M;cases M
    ·rfl
   rw[O]at m
   unfold acy at m
   grind
  rename_i T a x H;split at t;case h_2=>cases t
  rename_i i z;rw[Ai]at t;obtain⟨t,ab⟩:=t;have V:i≠k:=λh=>by simp_all
  rw[H]at m;unfold aty at z;split at z;all_goals(try cases z)
  all_goals
   rename_i Z
   simp only[ac,aep,ad8,Z,As]at m
   repeat' split at m
   all_goals first
    |(cases m;done)
    |(
     obtain⟨_,_,rfl⟩:=Ac.upd.inj m
     rw[Ay V];done)
    |(
     obtain⟨_,_,rfl⟩:=Ac.upd.inj m
     grind[List.getElem?_set_ne,Nat.beq_refl])
 |@call f args _ _ _ _ _ _ U m _ _ _ _ _=>grind[ac,opd,ρT,aau,Nat.beq,upd,a3p,Bool.not_eq_true',a4q,List.any_eq_true,Nat.beq_refl]
theorem a0l{P:Program}{T:TypeId}{a:SV}{k:Nat}{st st':List BX}(m:aty a=some k)(h:st'[k]?=st[k]?):ahy P T st' a=ahy P T st a:=by unfold aty at m;grind[ahy,ad1]
theorem ama{P:Program}{p:LM}{k:Nat}{st st':List BX}(m:bbj p=some k)(h:st'[k]?=st[k]?):rdAc P p st'=rdAc P p st:=by
 unfold bbj at m;unfold rdAc;cases o:p.q with
 |none=>grind[a0l]
 |some key=>grind[ac6]
theorem ba2(es:List (PV×PV))(k key z:PV):(PV.mget (PV.mput es k ((PV.mget es k).getD z)) key).getD z=(PV.mget es key).getD z:=by
 cases t:PV.mget es k with
 |some y=>
  have:∀(es:List (PV×PV)),PV.mget es k=some y->PV.mput es k y=es:=by
   intro es;induction es with
   |nil=>intro h;cases h
   |cons e r o=>
    intro h;unfold PV.mput;cases m:ahj k e.1 with
    |true=>grind[PV.mget]
    |false=>simp only[Af];grind[PV.mget]
  grind
 |none=>
  have:∀(es:List (PV×PV))(y:PV),PV.mget es k=none->PV.mput es k y=es++[(k,y)]:=by
   intro es y;induction es with
   |nil=>intro _;rfl
   |cons e r o=>
    intro h;unfold PV.mput;cases m:ahj k e.1 with
    |true=>grind[PV.mget]
    |false=>simp only[Af];grind[PV.mget]
  grind[PV.mget,ahj]
theorem afh{P:Program}{T:TypeId}{a x:Operand}{m ρt ρf:Operand->SV}{st:List BX}{f:FuncId}{args:List SV}(h:ac P (.mapEntry T a x) m ρt ρf st=.call f args):False:=by simp only[ac,acn,As]at h;grind
theorem az0{C:Cfg}{ops:Array Oper}{o:Oper}{e:Env}{st st':List BX}{v:SV}{p:LM}(O:au3 o.op=true)(hq:p.q.isSome=true)(h:StepV C ops o e st v st'):rdAc C.P p st'=rdAc C.P p st:=by
 unfold au3 at O;split at O;case h_2=>cases O
 rename_i T m x M;cases h with
 |val=>rfl
 |gval=>rfl
 |gcall=>rfl
 |gskip=>rfl
 |gcallU U ht Z t=>grind[afh]
 |call U t=>grind[afh]
 |upd U t=>
  rw[M]at t;simp only[ac]at t;unfold acn at t;split at t
  ·rename_i K E hT;simp only[As]at t;split at t;case isFalse=>cases t
   split at t;case h_2=>cases t
   rename_i b Z;split at t;case h_2=>cases t
   rename_i K' E' es V;split at t;case isFalse=>cases t
   rename_i hE;simp only[Ai]at hE;have:=Ag hE.1;subst this;have:=Ag hE.2;subst this;obtain⟨_,_,rfl⟩:=Ac.upd.inj t;obtain⟨key,z⟩:=Option.isSome_iff_exists.1 hq;unfold rdAc;rw[z];simp only;cases hp:p.a with
   |mref W=>
    by_cases I:W=b
    ·subst I;have J:=(A6.1 V).1;unfold ac6;split
     ·rename_i H G Y;cases hc:(keyT C.P H&&isOf C.P H key&&acg C.P G&&isOf C.P G (aa8 C.P 12 G))with
      |false=>rfl
      |true=>
       simp only[Ad];rw[List.getElem?_set_self J,V];simp only;cases X:(Nat.beq H K&&Nat.beq G E)with
       |false=>rfl
       |true=>simp_all[Ai,Ag,Ad,akq,ba2]
     ·rfl
    grind[ac6,List.getElem?_set_ne]
   |_=>rfl
  ·cases t
theorem abn{L:Array Bool}{j i:Nat}(m:j<L.size):(L.setIfInBounds j true).getD i false=if i=j then true else L.getD i false:=by
 by_cases h:i=j
 ·simp_all
 ·have:j≠i:=λe=>h e.symm;simp_all
theorem ag0(n i:Nat):(Array.replicate n false).getD i false=false:=by by_cases h:i<n<;>simp[h]
def envL(ops:Array Oper)(v:Nat->SV)(e:Env)(L:Array Bool):Env:=λt=>match ac0 t ops.toList 0 with|some i=>if L.getD i false=true then v i else e t|none=>e t
def unl(n:Nat)(L:Array Bool):Nat:=((List.range n).filter λi=>!L.getD i false).length
theorem a9i{p q:Nat->Bool}{j:Nat}(z:∀i,q i=true->p i=true)(o:p j=true)(t:q j=false):∀{l:List Nat},j∈l->(l.filter q).length<(l.filter p).length:=by
 intro l;have G:∀l:List Nat,(l.filter q).length<=(l.filter p).length:=by
  intro l;induction l with
  |nil=>simp
  |cons x r m=>grind
 induction l with
 |nil=>simp
 |cons x r m=>grind
section
variable{Γ:Ctx}
def at9(ops:Array Oper)(i:Nat):Prop:=∃o,ops[i]?=some o/\(mkDI ops).upd i o=true
def afx(ops:Array Oper)(i:Nat):Prop:=∃o,ops[i]?=some o/\adp o.op=true
def NUpd(ops:Array Oper)(i:Nat):Prop:=∃o,ops[i]?=some o/\(mkDI ops).upd i o=true/\adp o.op=false
theorem aus{d:DI}{j:Nat}{o:Oper}(h:adp o.op=true):d.upd j o=true:=by
 unfold DI.upd;have:baa o.op=true:=by
  unfold adp at h;split at h
  ·rename_i m;rw[m];rfl
  ·rename_i m;rw[m];rfl
  ·rename_i m;rw[m];rfl
  ·cases h
 simp[*]
structure Part(ops:Array Oper)(s:Nat->List BX)(L:Array Bool)(k:Nat)(σ:List BX):Prop where
 len:(s k).length<=σ.length
 pre:∀p,p<(s k).length->σ[p]?=(s k)[p]?
 fil:∀i b,k<=i->afx ops i->L.getD i false=true->s (i+1)=s i++[b]->σ[(s i).length]?=some b
 hol:∀p,(s k).length<=p->p<σ.length->σ[p]?=some .hole\/∃i,k<=i/\afx ops i/\L.getD i false=true/\(s i).length=p
 top:σ.length=(s k).length\/∃i,k<=i/\afx ops i/\L.getD i false=true/\σ.length=(s i).length+1
section
variable{ops:Array Oper}{s:Nat->List BX}(hE:∀i,afx ops i->∃b,s (i+1)=s i++[b])(hN:∀i,i<ops.size->¬at9 ops i->s (i+1)=s i)
include hE hN
theorem ax5{i:Nat}(z:i<ops.size)(I:¬NUpd ops i):(afx ops i/\∃b,s (i+1)=s i++[b])\/(¬afx ops i/\s (i+1)=s i):=by
 have G:ops[i]?=some ops[i]:=Array.getElem?_eq_getElem z;cases M:adp ops[i].op with
 |true=>grind[afx]
 |false=>
  refine Or.inr ⟨λH=>?_,hN i z λJ=>?_⟩
  ·obtain⟨o,m,t⟩:=H;grind
  ·obtain⟨o,m,t⟩:=J;rw[G]at m;cases m;exact I ⟨_,G,t,M⟩
theorem al6{p q:Nat}(z:p<=q)(J:q<=ops.size)(m:∀i,p<=i->i<q->¬NUpd ops i):∃t,s q=s p++t:=by
 induction q with
 |zero=>simp_all
 |succ q G=>
  by_cases I:p=q+1
  ·all_goals simp[*]
  ·obtain⟨t,h⟩:=G (by omega) (by omega) (λi o H=>m i o (by omega));rcases ax5 hE hN (i:=q) (by omega) (m q (by omega) (by omega))with⟨_,b,o⟩|⟨_,o⟩;all_goals simp[*]
theorem anh{p q x:Nat}(H:p<=q)(J:q<=ops.size)(m:∀i,p<=i->i<q->¬NUpd ops i)(o:(s p).length<=x)(z:x<(s q).length):∃i,p<=i/\i<q/\afx ops i/\(s i).length=x:=by
 induction q with
 |zero=>grind
 |succ q O=>
  by_cases I:p=q+1
  ·all_goals grind
  ·have t:∀i,p<=i->i<q->¬NUpd ops i:=λi o z=>m i o (by omega);rcases ax5 hE hN (i:=q) (by omega) (m q (by omega) (by omega))with⟨M,b,G⟩|⟨_,G⟩;all_goals grind
theorem avn{i q:Nat}(z:i<q)(G:q<=ops.size)(o:∀m,i<m->m<q->¬NUpd ops m){b:BX}(h:s (i+1)=s i++[b]):(s q)[(s i).length]?=some b/\(s i).length<(s q).length:=by obtain⟨J,I⟩:=al6 hE hN (p:=i+1) (q:=q) (by omega) G (λm H t=>o m (by omega) t);grind
theorem agt{L:Array Bool}{k j:Nat}{σ:List BX}(P:Part ops s L k σ)(G:k<=j)(J:j<=ops.size)(m:∀i,k<=i->i<j->¬NUpd ops i)(o:∀i,k<=i->i<j->afx ops i->L.getD i false=true)(Y:∀i,j<=i->afx ops i->L.getD i false=false):σ=s j:=by
 have lt:∀i,k<=i->afx ops i->L.getD i false=true->i<j:=λi O U h3=>by grind
 have aa:σ.length=(s j).length:=by
  rcases P.top with h|⟨i,O,U,h3,h4⟩
  ·by_cases W:(s k).length<(s j).length
   ·exfalso;obtain⟨i,I,z,t,q4⟩:=anh hE hN G J m (Nat.le_refl _) W;obtain⟨b,M⟩:=hE i t;have:=P.fil i b I t (o i I z t) M;grind
   ·obtain⟨τ,ht⟩:=al6 hE hN G J m;grind
  ·have X:=lt i O U h3;obtain⟨b,M⟩:=hE i U;have ad:=(avn hE hN X J (λH I z=>m H (by omega) z) M).2;by_cases W:(s i).length+1<(s j).length
   ·exfalso;have ab:(s (i+1)).length=(s i).length+1:=by simp[*]
    obtain⟨H,I,z,t,q4⟩:=anh hE hN (p:=i+1) (q:=j) (by omega) J (λH I z=>m H (by omega) z) (x:=(s i).length+1) (by omega) W;obtain⟨b',V⟩:=hE H t;have:=P.fil H b' (by omega) t (o H (by omega) z t) V;grind
   ·omega
 obtain⟨τ,ht⟩:=al6 hE hN G J m;apply List.ext_getElem?;intro p;by_cases O:p<(s k).length
 ·rw[P.pre p O,ht,A1 O]
 ·by_cases U:p<(s j).length
  ·obtain⟨i,I,z,t,q4⟩:=anh hE hN G J m (by omega) U;obtain⟨b,M⟩:=hE i t;have e1:=P.fil i b I t (o i I z t) M;have e2:=(avn hE hN z J (λH ae Z=>m H (by omega) Z) M).1;grind
  grind
theorem bbd{L M:Array Bool}{k j:Nat}{G:List BX}(P:Part ops s L k G)(O:k<=j)(hj:j<ops.size)(U:∀i,k<=i->i<j->¬NUpd ops i)(V:∀i,k<=i->afx ops i->L.getD i false=true->∀I,k<=I->I<i->¬NUpd ops I)
 (hx:afx ops j) {b:BX} (hb:s (j+1)=s j++[b]) (ah:L.getD j false=false) (hL:∀i,M.getD i false=if i=j then true else L.getD i false):
 (∃n,(s j).length=(G++List.replicate n BX.hole).length/\Part ops s M k (G++List.replicate n .hole++[b]))\/(G[(s j).length]?=some .hole/\Part ops s M k (G.set (s j).length b)):=by
 obtain⟨τ,ht⟩:=al6 hE hN O (by omega) U
 have ae:(s k).length<=(s j).length:=by simp[*]
 have ag:∀i,L.getD i false=true->M.getD i false=true:=λi h=>by grind
 have aa:M.getD j false=true:=by simp[*]
 have apart:∀i,k<=i->afx ops i->L.getD i false=true->(s i).length≠(s j).length:=by
  intro i m t X he;have af:i≠j:=λhh=>by grind
  have hi:i<ops.size:=by obtain⟨o,ho,_⟩:=t;grind
  rcases Nat.lt_or_gt_of_ne af with h|h
  ·obtain⟨W,ab⟩:=hE i t;have:=(avn hE hN h (by omega) (λI Z J=>U I (by omega) J) ab).2;omega
  ·have:=(avn hE hN h (by omega) (λI Z J=>V i m t X I (by omega) J) hb).2;omega
 by_cases hc:(s j).length<G.length
 ·refine Or.inr ⟨?_,⟨by grind,λp H=>?_,λi W m t X Y=>?_,λp m t=>?_,?_⟩⟩
  ·rcases P.hol _ ae hc with h|⟨i,m,t,X,Y⟩;all_goals simp_all
  ·rw[Ay (by omega)];exact P.pre p H
  ·by_cases ad:i=j
   ·simp_all
   ·have z:L.getD i false=true:=by grind
    rw[Ay (λh=>apart i m t z h.symm)];exact P.fil i W m t z Y
  ·by_cases H:p=(s j).length
   ·all_goals grind
   ·rw[Ay (by omega)];rcases P.hol p m (by simp_all)with h|⟨i,Z,J,q3,q4⟩;all_goals grind
  ·rcases P.top with h|⟨i,Z,J,q3,q4⟩;all_goals grind
 ·refine Or.inl ⟨(s j).length-G.length,by simp;omega,⟨?_,λp H=>?_,λi W m t X Y=>?_,λp m t=>?_,Or.inr ⟨j,O,hx,aa,by simp;omega⟩⟩⟩
  ·grind
  ·have:=P.len;rw[Aq,A1 (by omega)];exact P.pre p H
  ·by_cases ad:i=j
   ·simp_all[A4]
   ·have z:L.getD i false=true:=by grind
    have e:=P.fil i W m t z Y;grind
  ·by_cases H:p<G.length
   ·rw[Aq,A1 H];rcases P.hol p m H with h|⟨i,Z,J,q3,q4⟩;all_goals grind
   ·by_cases ai:p<(s j).length
    ·refine Or.inl ?_;rw[Aq,A4 (by omega),A1 (by simp;omega)];simp_all[List.getElem?_replicate,if_pos]
    grind
end
theorem bj2{C:Cfg}(hP:C.P=Γ.P)(hn:Γ.n=C.n){ops:Array Oper}{i:Nat}{o:Oper}(ho:ops[i]?=some o){e O:Env}{k:Nat}{v:SV}{b:BX}(hg:o.guard=none)(z:extV C.P o.op (opd e []) k=some (v,b))(hd:asb C.n o.dst=true)
 (W:∀t,e t=.undef\/e t=O t) {V M:List BX}{a:Act}{w:World} (J:Rel Γ O V a w) (Y:at8 Γ.np V k b M) (hc:∀d,o.dst=some d->a4i O d)
 (next:Act->World->Prop) (Q:Exit->Act->World->Prop) (H:(∀u m x,v≠.gd u m x)->∀a' w',Rel Γ (put O o.dst v) M a' w'->next a' w'):wpOp Γ.P ops Q i next a w:=by
 obtain⟨D,ow,μ,hw,U⟩:=J
 have X:Slots Γ D ow μ e V a w:=⟨U.size,U.defers,λt=>by
  rcases W t with h|h
  ·rw[h];exact .undef
  ·rw[h];exact U.slot t⟩
 unfold wpOp
 simp only[ho]
 have ad:∀x,SRep Γ.P D w ow μ V (opd e [] x) (a.eval x):=λx=>aby X [] (λ_ hx=>by cases hx) x
 have ab:Region.wanted o (yielded ops a.tmps)=true:=by simp[Region.wanted,hg]
 simp only[ab,A8]
 refine Or.inl ?_
 unfold Oper.wp
 rw[hP]at z
 have G:=a9f hw ad o z Y
 have I:∀t m x,v≠.gd t m x:=by intro t m x Z;obtain⟨u,w',D',ae,af,_,_,_,aa⟩:=G;subst Z;cases aa
 exact awe hn U hd hc G v (λ_ _ _ _ _ h=>h.slot) (λt m x Z=>absurd Z (I t m x)) next Q (H I)
theorem bbw{o:Env}{I:List BX}{a:Act}{w:World}(n:Nat)(h:Rel Γ o I a w):Rel Γ o (I++List.replicate n .hole) a w:=by
 obtain⟨D,ow,μ,M,z⟩:=h;obtain⟨J,G⟩:=WRel.pushHoles n M;refine⟨D,ow,μ,J,⟨z.size,z.defers,λt=>?_⟩⟩;have:=z.slot t;revert this;cases o t with
 |gd u H x=>exact λm=>⟨λq=>G (m.1 q),m.2⟩
 |_=>exact λm=>G m
structure DInv(Γ:Ctx)(ops:Array Oper)(N n0:Nat)(v:Nat->SV)(s:Nat->List BX)(e:Env)(L:Array Bool)(a:Act)(w:World):Prop where
 size:L.size=ops.size
 down:Down ops L
 gd:∀t u want x,envL ops v e L t=.gd u want x->∃g o,L.getD g false=true/\ops[g]?=some o/\o.dst=some u
 lt:∀i,L.getD i false=true->i<N
 k:∃k σ,k<=N/\(∀i,i<k->at9 ops i->L.getD i false=true)/\(∀i,k<=i->NUpd ops i->L.getD i false=false)/\n0<=(s k).length/\Part ops s L k σ/\Rel Γ (envL ops v e L) σ a w
theorem a6w{R:Type}{C:Cfg}(hC:acx C)(hP:C.P=Γ.P)(hn:Γ.n=C.n){ops:Array Oper}(hd:axb Γ.P ops=true){e:Env}{st:List BX}{K:Env->List BX->Option R}{X:SV->List BX->Option R}{r:R}(h:runD C (mkDI ops) ops st.length ops.toList 0 e st [] K X=some r)
 (cf:∀t u I x,e t≠.gd u I x) {Q:Exit->Act->World->Prop} (hK:∀e' st' a' w',K e' st'=some r->Rel Γ e' st' a' w'->Q .normal a' w') (hX:∀s st' v a' w',X s st'=some r->PRel Γ s st' v a' w'->Q (.panic [{ v,recovered:=false }]) a' w') (a:Act) (w:World) (bf:Rel Γ e st a w):
 wpAny Γ.P .any ops Q ops.size (Array.replicate ops.size false) a w:=by
 simp only[axb,Ai]at hd
 obtain⟨⟨_,aC⟩,bo⟩:=hd
 have bo:=ax4 bo
 have aC:=axd aC
 obtain⟨N,v,s0,E,LK,bJ,cx,cr,aM,aZ,hk⟩:=a6x hC ops.toList 0 e st [] h
 have aO:ops.toList.length=ops.size:=by simp
 rw[aO]at aM
 simp only[Nat.zero_add,aO]at aZ hk
 obtain⟨s,br,co,cp⟩:∃s:Nat->List BX,(∀i,i<=N->s i=s0 i)/\(∀i,N<=i->afx ops i->s (i+1)=s i++[.hole])/\(∀i,N<=i->¬afx ops i->s (i+1)=s i):=by
  refine⟨λi=>if i<=N then s0 i else s0 N++((List.range (i-N)).filter λd=>(ops[N+d]?).any λo=>adp o.op).map λ_=>.hole,λi hi=>by simp[hi],λi hi⟨o,U,Z⟩=>?_,λi hi Z=>?_⟩
  ·simp only[show ¬(i+1<=N) by omega,A9,show i+1-N=(i-N)+1 by omega,List.range_succ,List.filter_append,List.map_append];grind
  ·simp only[show ¬(i+1<=N) by omega,A9,show i+1-N=(i-N)+1 by omega,List.range_succ,List.filter_append,List.map_append];have e1:(ops[N+(i-N)]?).any (λo=>adp o.op)=false:=by
    rw[show N+(i-N)=i by omega];cases U:ops[i]? with
    |none=>rfl
    |some o=>
         cases hb:adp o.op with
         |true=>exact absurd ⟨o,U,hb⟩ Z
         |false=>simp[hb]
   grind
 have aQ:s 0=st:=(br 0 (by omega)).trans bJ
 have O:∀j o,j<N->ops[j]?=some o->DStep C (mkDI ops) ops st.length j o (E j) (s j) (v j) (s (j+1)) (LK j) (LK (j+1))/\E (j+1)=put (E j) o.dst (v j):=by grind
 have bS:∀p i j,i<=j->j<=N->p∈LK i->p∈LK j:=by
  intro p i j W;induction j with
  |zero=>grind
  |succ j ih=>
   intro hj hp;by_cases he:i=j+1
   ·simp_all
   ·have U:ops[j]?=some ops[j]:=Array.getElem?_eq_getElem (by omega);exact(O j _ (by omega) U).1.sub p (ih (by omega) (by omega) hp)
 have bA:∀j,j<=N->∀p,p∈LK j->p.u=true->∃q o,q<j/\ops[q]?=some o/\p.j=q/\(mkDI ops).upd q o=true/\p.f=λk=>akr C o ((mkDI ops).mask q (E q)) (s q) k:=by
  intro j;induction j with
  |zero=>simp[*]
  |succ j ih=>
   intro hj p hp hu;have U:ops[j]?=some ops[j]:=Array.getElem?_eq_getElem (by omega);rcases(O j _ (by omega) U).1.log p hp hu with h|⟨G,M,m⟩
   ·obtain⟨q,o,q1,q2⟩:=ih (by omega) p h hu;grind
   ·exact⟨j,_,by omega,U,G,M,m⟩
 have a1:∀j o t,ops[j]?=some o->o.dst=some t->ac0 t ops.toList 0=some j:=by intro j o t U av;have:=bcy (k:=0) bo (by simpa using U) av;simp[*]
 have ax:∀t i,ac0 t ops.toList 0=some i->∃o,ops[i]?=some o/\o.dst=some t:=by intro t i hw;obtain⟨_,o,G,M⟩:=a1z hw;simp_all
 have hE:∀j,j<=N->∀t,E j t=match ac0 t ops.toList 0 with|some i=>if i<j then v i else e t|none=>e t:=by
  intro j;induction j with
  |zero=>grind
  |succ j ih=>
   intro hj t;have U:ops[j]?=some ops[j]:=Array.getElem?_eq_getElem (by omega);rw[(O j _ (by omega) U).2];have ih:=ih (by omega) t;cases av:ops[j].dst with
   |none=>
    simp only[put,ih];cases hw:ac0 t ops.toList 0 with
    |none=>rfl
    |some i=>
     simp only;obtain⟨o,G,M⟩:=ax t i hw;have:i≠j:=λhh=>by subst hh;rw[U]at G;cases G;rw[av]at M;cases M
     by_cases W:i<j
     ·rw[if_pos W,if_pos (by omega)]
     ·rw[if_neg W,if_neg (by omega)]
   |some d=>
    simp only[put,Env.set];cases hb:Nat.beq t d with
    |true=>have:=Ag hb;subst this;rw[a1 j _ t U av];simp
    |false=>
     simp only[Af,ih];cases hw:ac0 t ops.toList 0 with
     |none=>rfl
     |some i=>
      simp only;obtain⟨o,G,M⟩:=ax t i hw;have:i≠j:=λhh=>by subst hh;rw[U]at G;cases G;rw[av]at M;cases M;rw[Bg]at hb;cases hb
      by_cases W:i<j
      ·rw[if_pos W,if_pos (by omega)]
      ·rw[if_neg W,if_neg (by omega)]
 have aK:∀i,afx ops i->∃b,s (i+1)=s i++[b]:=by
  intro i Z;by_cases hi:i<N
  ·obtain⟨o,U,Z⟩:=Z;obtain⟨_,_,_,_,a0⟩:=(O i o hi U).1.upd (aus Z);obtain⟨_,b,G,_⟩:=aur Z a0;exact⟨b,G⟩
  ·exact⟨_,co i (by omega) Z⟩
 have aA:∀i,i<ops.size->¬at9 ops i->s (i+1)=s i:=by
  intro i hi an;have U:ops[i]?=some ops[i]:=Array.getElem?_eq_getElem hi;by_cases b6:i<N
  ·refine((O i _ b6 U).1.non ?_).1;cases hb:(mkDI ops).upd i ops[i]with
   |false=>rfl
   |true=>exact absurd ⟨_,U,hb⟩ an
  ·exact cp i (by omega) (λ⟨o,G,M⟩=>an ⟨o,G,aus M⟩)
 have cg:Γ.np<=st.length:=by obtain⟨_,_,_,hw,_⟩:=bf;exact hw.np
 have bu:∀p q,p<=q->q<=ops.size->(∀i,p<=i->i<q->¬at9 ops i)->s p=s q:=by
  intro p q ck;induction q with
  |zero=>
   intro _ _;have:p=0:=by omega
   subst this;rfl
  |succ q ih=>
   intro hq an;by_cases he:p=q+1
   ·subst he;rfl
   ·have U:ops[q]?=some ops[q]:=Array.getElem?_eq_getElem (by omega);have hu:(mkDI ops).upd q ops[q]=false:=by
     cases hb:(mkDI ops).upd q ops[q]with
     |false=>rfl
     |true=>exact absurd ⟨_,U,hb⟩ (an q (by omega) (by omega))
    rw[ih (by omega) (by omega) (λi G M=>an i G (by omega)),aA q (by omega) (an q (by omega) (by omega))]
 have aR:∀p q,p<=q->q<=N->(∀i o,p<=i->i<q->ops[i]?=some o->(mkDI ops).upd i o=true->adp o.op=true\/(mkDI ops).soft o=true)->(s p).take st.length=(s q).take st.length:=by
  intro p q ck;induction q with
  |zero=>
   intro _ _;have:p=0:=by omega
   subst this;rfl
  |succ q ih=>
   intro hq an;by_cases he:p=q+1
   ·subst he;rfl
   ·have U:ops[q]?=some ops[q]:=Array.getElem?_eq_getElem (by omega);rw[ih (by omega) (by omega) (λi o G M=>an i o G (by omega))];cases hu:(mkDI ops).upd q ops[q]with
    |false=>rw[((O q _ (by omega) U).1.non hu).1]
    |true=>
     have Z:=an q _ (by omega) (by omega) U hu;obtain⟨_,M,_,h4,m⟩:=(O q _ (by omega) U).1.upd hu;rcases Z with Z|Z
     ·exact(a2v Z m M).symm
     ·exact(ayw (h4 Z) m).symm
 have a6:∀L a w,DInv Γ ops N st.length v s e L a w->(∀i,i<ops.size->L.getD i false=true)->Q .normal a w:=by
  intro L a w hi al;have bj:N=ops.size:=by
   rcases Nat.lt_or_ge N ops.size with h|h
   ·have:=hi.lt N (al N h);omega
   ·omega
  have hk:K (E ops.size) (s ops.size)=some r:=by
   rcases hk with⟨_,hk⟩|⟨o,_,_,U,_⟩
   ·rw[<-bj,br N (Nat.le_refl _)];exact hk
   ·have:=(A6.1 U).1;rw[aO]at this;omega
  obtain⟨k,σ,aE,aF,ah,aV,ad,hr⟩:=hi.k;have e1:σ=s ops.size:=agt aK aA ad (by omega) (Nat.le_refl _) (λi G M hu=>by
   have:=ah i G hu;rw[al i M]at this;cases this) (λi _ M _=>al i M) (λi G⟨o,U,_⟩=>by
   have:=(Array.getElem?_eq_some_iff.1 U).1;omega)
  have e2:envL ops v e L=E ops.size:=by
   funext t;rw[hE _ (by omega)];unfold envL;cases hw:ac0 t ops.toList 0 with
   |none=>rfl
   |some i=>obtain⟨o,G,_⟩:=ax t i hw;have aa:i<ops.size:=(Array.getElem?_eq_some_iff.1 G).1;simp only[al i aa,if_pos aa,A8]
  rw[e1,e2]at hr;exact hK _ _ _ _ hk hr
 have aX:∀L,L.size=ops.size->Region.ready .any ops L=[]->∀i,i<ops.size->L.getD i false=true:=by
  intro L cE hr i;induction i using Nat.strongRecOn with
  |_ i ih=>
   intro hi;cases hb:L.getD i false with
   |true=>rfl
   |false=>
    have U:ops[i]?=some ops[i]:=Array.getElem?_eq_getElem hi;have hm:i∈Region.ready .any ops L:=mem_ready.2 ⟨by
     have aa:i<L.size:=by omega
     simpa[aa]using hb,_,U,λx Z bZ=>by
     have aa:=aC i _ (by simpa using U) x Z bZ;exact ih x.on (by omega) (by omega)⟩
    rw[hr]at hm;cases hm
 have bN:∀ak L a w,DInv Γ ops N st.length v s e L a w->unl ops.size L<=ak->wpAny Γ.P .any ops Q ak L a w:=by
  intro ak;induction ak with
  |zero=>
   intro L a w hi hu;have al:∀i,i<ops.size->L.getD i false=true:=by
    intro i aa;cases hb:L.getD i false with
    |true=>rfl
    |false=>have:i∈(List.range ops.size).filter λi=>!L.getD i false:=List.mem_filter.2 ⟨List.mem_range.2 aa,by rw[hb];rfl⟩;have:=List.length_pos_of_mem this;unfold unl at hu;omega
   refine⟨?_,a6 L a w hi al⟩;cases hr:Region.ready .any ops L with
   |nil=>rfl
   |cons i r=>
    have hm:i∈Region.ready .any ops L:=by rw[hr];simp
    obtain⟨G,o,U,_⟩:=mem_ready.1 hm;have aa:i<ops.size:=(Array.getElem?_eq_some_iff.1 U).1;have:=al i aa;have aw:i<L.size:=by rw[hi.size];exact aa
    simp[aw]at this G;rw[this]at G;cases G
  |succ ak ih=>
   intro L a w hi hu;refine⟨λhr=>a6 L a w hi (aX L hi.size hr),λj hj=>?_⟩;obtain⟨b7,o,U,be⟩:=mem_ready.1 hj;have aa:j<ops.size:=(Array.getElem?_eq_some_iff.1 U).1;have V:j<L.size:=by rw[hi.size];exact aa
   have aL:L.getD j false=false:=by simpa[V]using b7
   have bw:∀i,Anc ops i j->L.getD i false=true:=λi ha=>a7w hi.down ha (λo' ao x Z hb=>by rw[U]at ao;cases ao;exact be x Z hb);have b0:∀i,Anc ops j i->L.getD i false=false:=λi ha=>by
    cases hb:L.getD i false with
    |false=>rfl
    |true=>have:=a7w hi.down ha (hi.down i hb);rw[aL]at this;cases this
   have aq:∀i,(mkDI ops).cmp i j=true->i≠j->(i<j/\L.getD i false=true)\/(j<i/\L.getD i false=false):=by
    intro i hc H;unfold DI.cmp at hc;cases hb:Nat.beq i j with
    |true=>exact absurd (Ag hb) H
    |false=>
     rw[hb]at hc;simp only[Af]at hc;cases aT:Nat.blt i j with
     |true=>rw[aT]at hc;obtain⟨G,M⟩:=ax1 hc;exact Or.inl ⟨G,bw i M⟩
     |false=>rw[aT]at hc;obtain⟨G,M⟩:=ax1 hc;exact Or.inr ⟨G,b0 i M⟩
   obtain⟨k,σ,aE,aF,ah,aV,ad,hr⟩:=hi.k;have b8:j<=N:=by
    rcases Nat.lt_or_ge N j with h|h
    ·rcases hk with⟨bj,_⟩|⟨o',sp,st',ao,hp,_⟩
     ·omega
     ·have G:=aex hp.last j o (by simpa[mkDI]using U);simp only[Nat.zero_add,A7]at G;rcases G with G|G
      ·have:=At G;omega
      ·have:=hi.lt N (bw N (ax1 G).2);omega
    ·exact h
   have bR:∀t i,ac0 t ops.toList 0=some i->i≠j->(mkDI ops).cmp i j=true->E j t=envL ops v e L t:=by
    intro t i hw H hc;rw[hE j b8];unfold envL;simp only[hw];rcases aq i hc H with⟨G,M⟩|⟨G,M⟩
    ·rw[if_pos G,if_pos M]
    ·rw[if_neg (by omega),if_neg (by rw[M];decide)]
   have ai:∀t,(mkDI ops).mask j (E j) t=.undef\/(mkDI ops).mask j (E j) t=envL ops v e L t:=by
    intro t;unfold DI.mask;show(match ac0 t ops.toList 0 with|some i=>(bif (mkDI ops).cmp i j then E j t else .undef)|none=>E j t)=_\/(match ac0 t ops.toList 0 with|some i=>(bif (mkDI ops).cmp i j then E j t else .undef)|none=>E j t)=_;cases hw:ac0 t ops.toList 0 with
    |none=>refine Or.inr ?_;simp only;rw[hE j (by omega)];unfold envL;simp only[hw]
    |some i=>
     simp only;cases hc:(mkDI ops).cmp i j with
     |false=>exact Or.inl rfl
     |true=>
      refine Or.inr ?_;simp only[Ad];by_cases H:i=j
      ·subst H;rw[hE i (by omega)];unfold envL;simp only[hw];rw[if_neg (by omega),if_neg (by rw[aL];decide)]
      ·exact bR t i hw H hc
   have ae:(mkDI ops).isA j=true->∀i,at9 ops i->i≠j->(i<j/\L.getD i false=true)\/(j<i/\L.getD i false=false):=by intro hA i ⟨oi,Y,J⟩ H;have:=aex hA i oi (by simpa[mkDI]using Y);simp only[Nat.zero_add,J,An,Bool.false_or]at this;exact aq i this H
   have bT:(mkDI ops).isN j=true->∀i,NUpd ops i->i≠j->(i<j/\L.getD i false=true)\/(j<i/\L.getD i false=false):=by intro hA i ⟨oi,Y,J,a2⟩ H;have:=aex hA i oi (by simpa[mkDI]using Y);simp only[Nat.zero_add,J,a2,Ao,Bool.and_self,An,Bool.false_or]at this;exact aq i this H
   have z:∀i,afx ops i->at9 ops i:=λi⟨o,G,M⟩=>⟨o,G,aus M⟩;have ab:∀i,NUpd ops i->at9 ops i:=λi⟨o,G,M,_⟩=>⟨o,G,M⟩;have bH:∀i,k<=i->afx ops i->L.getD i false=true->∀i',k<=i'->i'<i->¬NUpd ops i':=by
    intro i G ⟨oi,Y,a2⟩ m i' h4 h5 af;obtain⟨hA,_⟩:=(O i oi (hi.lt i m) Y).1.upd (aus a2);rw[a2]at hA;obtain⟨bO,bc,bg,bh⟩:=af;have:=aex hA i' bO (by simpa[mkDI]using bc);simp only[Nat.zero_add,bg,bh,Ao,Bool.and_self,An,Bool.false_or]at this;unfold DI.cmp at this;cases hb:Nat.beq i' i with
    |true=>have:=Ag hb;omega
    |false=>
     rw[hb]at this;simp only[Af]at this;have aw:Nat.blt i' i=true:=by show Nat.ble (i'+1) i=true;rw[Nat.ble_eq];omega
     rw[aw]at this;simp only[Ad]at this;obtain⟨_,bB⟩:=ax1 this;have h6:=a7w hi.down bB (hi.down i m);have:=ah i' h4 ⟨bO,bc,bg,bh⟩;rw[h6]at this;cases this
   rcases Nat.lt_or_ge j N with bF|ct;case inr=>
    have:j=N:=by omega
    subst this
    rcases hk with⟨bj,_⟩|⟨o',sp,st',ao,hp,bU⟩
    ·omega
    ·have a9:ops[j]?=some o':=by simpa using ao
     rw[U]at a9;cases a9;have hA:=hp.isA;have aJ:k<=j:=aE;have bx:σ=s j:=agt aK aA ad aJ (by omega) (λi G M af=>by
      rcases ae hA i (ab i af) (by omega)with⟨_,m⟩|⟨m,_⟩
      ·have:=ah i G af;rw[this]at m;cases m
      ·omega) (λi G M he=>by
      rcases ae hA i (z i he) (by omega)with⟨_,m⟩|⟨m,_⟩
      ·exact m
      ·omega) (λi G he=>by
      have H:i≠j:=λhh=>by subst hh;obtain⟨o',q1,q3⟩:=he;rw[U]at q1;cases q1;rw[hp.ext]at q3;cases q3
      rcases ae hA i (z i he) H with⟨m,_⟩|⟨_,m⟩
      ·omega
      ·exact m)
     rw[bx]at hr;have aY:=hp.step;rw[<-br j (Nat.le_refl _)]at aY;exact a1l hP U aY ai hr _ Q (λv' a' w' cl=>hX _ _ v' a' w' bU cl)
   obtain⟨aB,cv⟩:=O j o bF U;have bK:(L.setIfInBounds j true).size=ops.size:=by simp[hi.size]
   have bE:∀g I t,o.guard=some (g,I)->(ops[g]?).bind (·.dst)=some t->L.getD g false=true/\∃og,ops[g]?=some og/\og.dst=some t:=by
    intro g I t hg ht;have:=aB.gd;unfold gdOk at this;rw[hg]at this;obtain⟨G,M⟩:=ax1 this;cases aW:ops[g]? with
    |none=>rw[aW]at ht;cases ht
    |some og=>rw[aW]at ht;exact⟨bw g M,og,rfl,ht⟩
   have bi:∀g og t,L.getD g false=true->ops[g]?=some og->og.dst=some t->o.dst≠some t:=by intro g og t hg aW ht hd;have G:=a1 g og t aW ht;have M:=a1 j o t U hd;rw[G]at M;cases M;rw[aL]at hg;cases hg
   have az:∀a4 k',k'<=N->Part ops s (L.setIfInBounds j true) k' a4->st.length<=(s k').length->(∀i,i<k'->at9 ops i->(L.setIfInBounds j true).getD i false=true)->(∀i,k'<=i->NUpd ops i->(L.setIfInBounds j true).getD i false=false)->
    (∀u I x,v j=.gd u I x->∃g,o.guard=some (g,I)/\(ops[g]?).bind (·.dst)=some u)->∀a' w',Rel Γ (put (envL ops v e L) o.dst (v j)) a4 a' w'->wpAny Γ.P .any ops Q ak (L.setIfInBounds j true) a' w':=by
    intro a4 k' b9 aY ce G M aD a' w' aH
    have a7:put (envL ops v e L) o.dst (v j)=envL ops v e (L.setIfInBounds j true):=by
     funext t;cases hd:o.dst with
     |none=>
      show envL ops v e L t=_;unfold envL;cases hw:ac0 t ops.toList 0 with
      |none=>rfl
      |some i=>
       simp only;obtain⟨oi,q1,q2⟩:=ax t i hw;have:i≠j:=λhh=>by subst hh;rw[U]at q1;cases q1;rw[hd]at q2;cases q2
       rw[abn V,if_neg this]
     |some d=>
      simp only[put,Env.set];cases hb:Nat.beq t d with
      |true=>have:=Ag hb;subst this;unfold envL;rw[a1 j o t U hd];simp only[Ad];rw[abn V,if_pos rfl,if_pos rfl]
      |false=>
       simp only[Af];unfold envL;cases hw:ac0 t ops.toList 0 with
       |none=>rfl
       |some i=>
        simp only;obtain⟨oi,q1,q2⟩:=ax t i hw;have:i≠j:=λhh=>by subst hh;rw[U]at q1;cases q1;rw[hd]at q2;cases q2;rw[Bg]at hb;cases hb
        rw[abn V,if_neg this]
    refine ih _ _ _ ⟨bK,?_,?_,λi hl=>?_,k',a4,b9,G,M,ce,aY,by rw[<-a7];exact aH⟩ ?_
    ·intro i hl oi Y x Z hb;rw[abn V]at hl ⊢;by_cases a3:x.on=j
     ·rw[if_pos a3]
     ·rw[if_neg a3];by_cases W:i=j
      ·subst W;rw[U]at Y;cases Y;exact be x Z hb
      ·rw[if_neg W]at hl;exact hi.down i hl oi Y x Z hb
    ·intro t u I x hh;rw[<-a7]at hh;have aS:(∃g o,L.getD g false=true/\ops[g]?=some o/\o.dst=some u)->∃g o,(L.setIfInBounds j true).getD g false=true/\ops[g]?=some o/\o.dst=some u:=by
      intro⟨g,og,q1,q2,q3⟩;refine⟨g,og,?_,q2,q3⟩;rw[abn V];split
      ·rfl
      ·exact q1
     cases hd:o.dst with
     |none=>rw[hd]at hh;exact aS (hi.gd t u I x hh)
     |some d=>
      rw[hd]at hh;simp only[put,Env.set]at hh;cases hb:Nat.beq t d with
      |true=>rw[hb]at hh;obtain⟨g,q1,q2⟩:=aD u I x hh;obtain⟨q3,og,q4,q5⟩:=bE g I u q1 q2;exact aS ⟨g,og,q3,q4,q5⟩
      |false=>rw[hb]at hh;exact aS (hi.gd t u I x hh)
    ·rw[abn V]at hl;by_cases W:i=j
     ·omega
     ·rw[if_neg W]at hl;exact hi.lt i hl
    ·have cu:unl ops.size (L.setIfInBounds j true)<unl ops.size L:=by
      unfold unl;refine a9i (j:=j) (λi hq=>?_) (by rw[aL];rfl) (by rw[abn V,if_pos rfl];rfl) (List.mem_range.2 aa);rw[abn V]at hq;by_cases W:i=j
      ·rw[if_pos W]at hq;cases hq
      ·rw[if_neg W]at hq;exact hq
     omega
   have ar:∀d,o.dst=some d->a4i (envL ops v e L) d:=by intro d hd t u I x hh hu;subst hu;obtain⟨g,og,q1,q2,q3⟩:=hi.gd t u I x hh;exact bi g og u q1 q2 q3 hd
   have a8:∀g I t,o.guard=some (g,I)->(ops[g]?).bind (·.dst)=some t->o.dst≠some t:=λg I t hg ht=>by obtain⟨q1,og,q2,q3⟩:=bE g I t hg ht;exact bi g og t q1 q2 q3
   cases hu:(mkDI ops).upd j o with
   |true=>
    obtain⟨hA,cb,cc,_,a0⟩:=aB.upd hu;have aJ:k<=j:=by
     rcases Nat.lt_or_ge j k with aw|b4
     ·have:=aF j aw ⟨o,U,hu⟩;rw[aL]at this;cases this
     ·exact b4
    cases Z:adp o.op with
    |true=>
     rw[Z]at hA;simp only[Ad]at hA;obtain⟨b2,b,cq,aI⟩:=aur Z a0;have an:∀i,k<=i->i<j->¬NUpd ops i:=λi G M af=>by
      rcases bT hA i af (by omega)with⟨_,m⟩|⟨m,_⟩
      ·have:=ah i G af;rw[this]at m;cases m
      ·omega
     have ap:∀i,(L.setIfInBounds j true).getD i false=if i=j then true else L.getD i false:=λi=>abn V
     have a3:afx ops j:=⟨o,U,Z⟩;have fin:∀bz a5,Rel Γ (envL ops v e L) bz a w->at8 Γ.np bz (s j).length b a5->Part ops s (L.setIfInBounds j true) k a5->wpOp Γ.P ops Q j (λa' w'=>wpAny Γ.P .any ops Q ak (L.setIfInBounds j true) a' w') a w:=by
      intro bz a5 cn cj aP;refine bj2 hP hn U b2 aI aB.dst ai cn cj ar _ Q (λaD a' w' aH=>az a5 k aE aP aV (λi W J=>?_) (λi W J=>?_) (λu I x hv=>absurd hv (aD u I x)) a' w' aH)
      ·rw[ap];split
       ·rfl
       ·exact aF i W J
      ·rw[ap];by_cases H:i=j
       ·subst H;obtain⟨o',q1,_,q3⟩:=J;rw[U]at q1;cases q1;rw[Z]at q3;cases q3
       ·rw[if_neg H];exact ah i W J
     rcases bbd aK aA ad aJ aa an bH a3 cq aL ap with⟨n,bn,aP⟩|⟨bn,aP⟩
     ·exact fin _ _ (bbw n hr) (Or.inl ⟨bn,rfl⟩) aP
     ·exact fin _ _ hr (Or.inr ⟨bn,rfl,Nat.le_trans cg cb⟩) aP
    |false=>
     rw[Z]at hA;simp only[Af]at hA;have bx:σ=s j:=agt aK aA ad aJ (by omega) (λi G M af=>by
      rcases ae hA i (ab i af) (by omega)with⟨_,m⟩|⟨m,_⟩
      ·have:=ah i G af;rw[this]at m;cases m
      ·omega) (λi G M he=>by
      rcases ae hA i (z i he) (by omega)with⟨_,m⟩|⟨m,_⟩
      ·exact m
      ·omega) (λi G he=>by
      have H:i≠j:=λhh=>by subst hh;obtain⟨o',q1,q3⟩:=he;rw[U]at q1;cases q1;rw[Z]at q3;cases q3
      rcases ae hA i (z i he) H with⟨m,_⟩|⟨_,m⟩
      ·omega
      ·exact m)
     rw[bx]at hr;refine at4 hP hn U a0 aB.dst ai hr ar a8 _ Q (λaD a' w' aH=>az (s (j+1)) (j+1) (by omega) ⟨Nat.le_refl _,λ_ _=>rfl,λi b G M m _=>?_,λp G M=>by omega,Or.inl rfl⟩ cc (λi W J=>?_) (λi W J=>?_) aD a' w' aH)
     ·rw[abn V,if_neg (by omega)]at m;rcases ae hA i (z i M) (by omega)with⟨h4,_⟩|⟨_,h4⟩
      ·omega
      ·rw[h4]at m;cases m
     ·rw[abn V];by_cases H:i=j
      ·rw[if_pos H]
      ·rw[if_neg H];rcases ae hA i J H with⟨_,m⟩|⟨m,_⟩
       ·exact m
       ·omega
     ·rw[abn V,if_neg (by omega)];exact ah i (by omega) J
   |false=>
    have aG:¬at9 ops j:=λ⟨o',ao,bL⟩=>by rw[U]at ao;cases ao;rw[hu]at bL;cases bL
    have bP:(mkDI ops).isA j=true->σ=s j:=by
     intro hA;rcases Nat.le_total k j with ai|ai
     ·exact agt aK aA ad ai (by omega) (λi G M af=>by
       rcases ae hA i (ab i af) (by omega)with⟨_,m⟩|⟨m,_⟩
       ·have:=ah i G af;rw[this]at m;cases m
       ·omega) (λi G M he=>by
       rcases ae hA i (z i he) (by omega)with⟨_,m⟩|⟨m,_⟩
       ·exact m
       ·omega) (λi G he=>by
       have H:i≠j:=λhh=>by subst hh;exact aG (z i he)
       rcases ae hA i (z i he) H with⟨m,_⟩|⟨_,m⟩
       ·omega
       ·exact m)
     ·have e1:σ=s k:=agt aK aA ad (Nat.le_refl _) (Nat.le_trans aE aM) (λi G M=>by omega) (λi G M=>by omega) (λi G he=>by
       have H:i≠j:=λhh=>by subst hh;exact aG (z i he)
       rcases ae hA i (z i he) H with⟨m,_⟩|⟨_,m⟩
       ·omega
       ·exact m)
      rw[e1];refine(bu j k ai (Nat.le_trans aE aM) (λi G M J=>?_)).symm;have H:i≠j:=λhh=>by subst hh;exact aG J
      rcases ae hA i J H with⟨m,_⟩|⟨_,m⟩
      ·omega
      ·have:=aF i M J;rw[this]at m;cases m
    have bQ:(mkDI ops).isA j=false->σ.take (bif (mkDI ops).isB j then st.length else 0)=(s j).take (bif (mkDI ops).isB j then st.length else 0):=by
     intro _;cases hB:(mkDI ops).isB j with
     |false=>simp
     |true=>
      simp only[Ad];have e0:σ.take st.length=(s k).take st.length:=by
       apply List.ext_getElem?;intro i;by_cases h:i<st.length
       ·rw[List.getElem?_take_of_lt h,List.getElem?_take_of_lt h];exact ad.pre i (by omega)
       ·rw[Bc (by simp;omega),Bc (by simp;omega)]
      rw[e0];have aI:∀i oi,ops[i]?=some oi->(mkDI ops).upd i oi=true->i≠j->(adp oi.op||(mkDI ops).soft oi)=false->(i<j/\L.getD i false=true)\/(j<i/\L.getD i false=false):=by intro i oi Y J H Z;have:=aex hB i oi (by simpa[mkDI]using Y);simp only[Nat.zero_add,J,Z,Ao,Bool.and_self,An,Bool.false_or]at this;exact aq i this H
      rcases Nat.le_total k j with ai|ai
      ·refine aR k j ai (by omega) (λi oi G M Y J=>?_);cases Z:(adp oi.op||(mkDI ops).soft oi)with
       |true=>simpa[A7]using Z
       |false=>
        rcases aI i oi Y J (by omega) Z with⟨_,m⟩|⟨m,_⟩
        ·simp only[Bool.or_eq_false_iff]at Z;have:=ah i G ⟨oi,Y,J,Z.1⟩;rw[this]at m;cases m
        ·omega
      ·refine(aR j k ai aE (λi oi G M Y J=>?_)).symm;have H:i≠j:=λhh=>by subst hh;exact aG ⟨oi,Y,J⟩
       cases Z:(adp oi.op||(mkDI ops).soft oi)with
       |true=>simpa[A7]using Z
       |false=>
        rcases aI i oi Y J H Z with⟨m,_⟩|⟨_,m⟩
        ·omega
        ·have:=aF i M ⟨oi,Y,J⟩;rw[this]at m;cases m
    have ap:∀i,(L.setIfInBounds j true).getD i false=if i=j then true else L.getD i false:=λi=>abn V
    have bp:∀i,afx ops i->i≠j:=λi he hh=>by subst hh;exact aG (z i he)
    have bI:Part ops s (L.setIfInBounds j true) k σ:=by
     refine⟨ad.len,ad.pre,λi b G M m h4=>?_,λp G M=>?_,?_⟩
     ·rw[ap,if_neg (bp i M)]at m;exact ad.fil i b G M m h4
     ·rcases ad.hol p G M with h|⟨i,q1,q2,q3,q4⟩
      ·exact Or.inl h
      ·exact Or.inr ⟨i,q1,q2,by rw[ap,if_neg (bp i q2)];exact q3,q4⟩
     ·rcases ad.top with h|⟨i,q1,q2,q3,q4⟩
      ·exact Or.inl h
      ·exact Or.inr ⟨i,q1,q2,by rw[ap,if_neg (bp i q2)];exact q3,q4⟩
    have bv:StepV C ops o ((mkDI ops).mask j (E j)) σ (v j) σ:=by
     cases bm:lmOf (mkDI ops) st.length j o ((mkDI ops).mask j (E j)) (LK j)with
     |none=>exact(aB.non hu).2 σ bP bQ bm
     |some p=>
      obtain⟨b5,⟨cC,ch⟩,au,ca,ci,cB,cm,bC⟩:=axu bm;obtain⟨bl,bG⟩:=aB.lm p hu bm;have cw:st.length<=(s k).length:=aV;have e0:σ[p.k]?=(s k)[p.k]?:=ad.pre p.k (by omega);have bd:∀i oi,i<N->ops[i]?=some oi->(mkDI ops).upd i oi=true->(adp oi.op||(mkDI ops).soft oi)=true->rdAc C.P p (s (i+1))=rdAc C.P p (s i):=by
       intro i oi hi Y J Z;obtain⟨_,M,_,h4,m⟩:=(O i oi hi Y).1.upd J;have ht:(s (i+1)).take st.length=(s i).take st.length:=by
        cases hb:adp oi.op with
        |true=>exact a2v hb m M
        |false=>rw[hb]at Z;exact ayw (h4 Z) m
       have e1:(s (i+1))[p.k]?=(s i)[p.k]?:=by have:=congrArg (λl=>l[p.k]?) ht;simpa[List.getElem?_take_of_lt ca]using this
       exact ama au e1
      have bM:rdAc C.P p (s k)=.val true (v j):=by
       rcases Nat.le_total k j with aN|aN
       ·have:∀q,k<=q->q<=j->rdAc C.P p (s k)=rdAc C.P p (s q):=by
         intro q cA;induction q with
         |zero=>
          intro _;have:k=0:=by omega
          subst this;rfl
         |succ q ay=>
          intro hq;by_cases he:k=q+1
          ·subst he;rfl
          ·rw[ay (by omega) (by omega)];have aj:ops[q]?=some ops[q]:=Array.getElem?_eq_getElem (by omega);cases ag:(mkDI ops).upd q ops[q]with
           |false=>rw[((O q _ (by omega) aj).1.non ag).1]
           |true=>
            have am:=aex bC q ops[q] (by simpa[mkDI]using aj);simp only[Nat.zero_add,ag,An,Bool.false_or,A7]at am;cases hb:adp ops[q].op with
            |true=>exact(bd q _ (by omega) aj ag (by rw[hb];rfl)).symm
            |false=>
             rcases am with(am|am)|am
             ·have:=At am;omega
             ·rcases aq q am (by omega)with⟨_,m⟩|⟨m,_⟩
              ·have:=ah q (by omega) ⟨_,aj,ag,hb⟩;rw[this]at m;cases m
              ·omega
             ·obtain⟨g,b3,aU⟩:=List.any_eq_true.1 am;simp only[Ai]at aU;obtain⟨q',o',_,ao,cy,_,b1⟩:=bA j (by omega) g b3 aU.1.1;have cD:=Ag aU.1.2;have:q'=q:=by omega
              subst this;rw[aj]at ao;cases ao;have ba:=aU.2;rw[b1]at ba;obtain⟨_,M,_,_,h5⟩:=(O q' _ (by omega) aj).1.upd ag;exact(ama au (al4 (k:=p.k) (by omega) h5 ba)).symm
        rw[this j aN (Nat.le_refl _)];exact bl
       ·have:∀q,j<=q->q<=k->rdAc C.P p (s q)=.val true (v j):=by
         intro q cz;induction q with
         |zero=>
          intro _;have:j=0:=by omega
          subst this;exact bl
         |succ q ay=>
          intro hq;by_cases he:j=q+1
          ·subst he;exact bl
          ·have ay:=ay (by omega) (by omega);have aj:ops[q]?=some ops[q]:=Array.getElem?_eq_getElem (by omega);cases ag:(mkDI ops).upd q ops[q]with
           |false=>rw[((O q _ (by omega) aj).1.non ag).1];exact ay
           |true=>
            have H:q≠j:=λhh=>by subst hh;exact aG ⟨_,aj,ag⟩
            have cd:({ p with v:=v j }:LM)∈LK q:=bS _ (j+1) q (by omega) (by omega) bG;cases am:(mkDI ops).cmp j q with
            |true=>
             have bD:(mkDI ops).cmp q j=true:=by
                 revert am;unfold DI.cmp;have bV:Nat.beq j q=false:=by rw[<-Bool.not_eq_true,Nat.beq_eq];omega
                 have aT:Nat.beq q j=false:=by rw[<-Bool.not_eq_true,Nat.beq_eq];omega
                 have bW:Nat.blt j q=true:=by show Nat.ble (j+1) q=true;rw[Nat.ble_eq];omega
                 have bX:Nat.blt q j=false:=by
                  cases bY:Nat.blt q j with
                  |false=>rfl
                  |true=>have:q+1<=j:=At bY;omega
                 rw[bV,aT,bW,bX];exact id
             rcases aq q bD H with⟨m,_⟩|⟨_,m⟩
             ·omega
             ·have:=aF q (by omega) ⟨_,aj,ag⟩;rw[this]at m;cases m
            |false=>
             have bk:=(O q _ (by omega) aj).1;rcases bk.ok ag _ cd cm (by simpa[ci]using am)with m|m|m|⟨m,h4⟩
             ·rw[bd q _ (by omega) aj ag m];exact ay
             ·obtain⟨_,M,_,_,h5⟩:=bk.upd ag;rw[ama au (al4 (k:=p.k) (by omega) h5 m)];exact ay
             ·exact m
             ·obtain⟨_,_,_,_,h5⟩:=bk.upd ag;rw[az0 (p:=p) h4 m h5];exact ay
        exact this k aN (Nat.le_refl _)
      refine .val b5 ?_;rw[ch,ama au e0];exact bM
    refine at4 hP hn U bv aB.dst ai hr ar a8 _ Q (λaD a' w' aH=>az σ k aE bI aV (λi W J=>?_) (λi W J=>?_) aD a' w' aH)
    ·rw[abn V];split
     ·rfl
     ·exact aF i W J
    ·rw[abn V];by_cases H:i=j
     ·subst H;exact absurd (ab i J) aG
     ·rw[if_neg H];exact ah i W J
 refine bN _ _ _ _ ⟨by simp,λj hj=>absurd hj (by rw[ag0];decide),λt u I x hh=>?_,λi hl=>absurd hl (by rw[ag0];decide),0,st,by omega,λi hi=>by omega,λi _ _=>ag0 _ _,by rw[aQ];exact Nat.le_refl _,⟨by rw[aQ];exact Nat.le_refl _,λp _=>by rw[aQ],λi b _ _ m _=>absurd m (by rw[ag0];decide),λp G M=>by rw[aQ]at G;omega,Or.inl (by rw[aQ])⟩,?_⟩ (by unfold unl;exact Nat.le_trans (List.length_filter_le _ _) (by simp))
 ·have:envL ops v e (Array.replicate ops.size false) t=e t:=by
   unfold envL;split
   ·rw[ag0,if_neg (by decide)]
   ·rfl
  rw[this]at hh;exact absurd hh (cf t u I x)
 ·have:envL ops v e (Array.replicate ops.size false)=e:=by
   funext t;unfold envL;split
   ·rw[ag0,if_neg (by decide)]
   ·rfl
  rw[this];exact bf
end
end Go.Ab
