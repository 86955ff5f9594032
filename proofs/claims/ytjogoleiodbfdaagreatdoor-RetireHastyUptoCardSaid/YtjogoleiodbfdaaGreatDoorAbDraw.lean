/- One operation of a region, whatever its order. -/
import Derived.Test.YtjogoleiodbfdaaGreatDoorAbExec
set_option linter.unusedVariables false
set_option linter.unusedSimpArgs false
set_option linter.unnecessarySimpa false
namespace Go.Ab
open Go
def ρT (e:Env) (h:List (Nat×Bool)) (op:Op) (w:Bool):Operand->SV:=match op with | .pick (.tmp u) _ _=>opd e ((u,w)::h) | _=>opd e []
inductive StepV (C:Cfg) (ops:Array Oper) (o:Oper) (e:Env) (st:List BX):SV->List BX->Prop
 | val {v:SV}:o.guard=none->ac C.P o.op (opd e []) (ρT e [] o.op true) (ρT e [] o.op false) st=.val true v->StepV C ops o e st v st
 | upd {v:SV}{st':List BX}:o.guard=none->ac C.P o.op (opd e []) (ρT e [] o.op true) (ρT e [] o.op false) st=.upd true v st'->StepV C ops o e st v st'
 | call {f:FuncId}{args as rs rs':List SV}{sub sub' bs:List BX}:o.guard=none->ac C.P o.op (opd e []) (ρT e [] o.op true) (ρT e [] o.op false) st=.call f args->
  renL st (ace (aar st args)) (λ_=>0) args=some as->agx st (ace (aar st args)) (λ_=>0) (aar st args)=some sub->Meets C.P f as sub rs sub'->aem st (aar st args) rs sub'=some (rs',bs)->(∀ s,rs'≠[.pan s])->StepV C ops o e st (ac9 rs') (abq (aar st args) bs st)
 | gval {j t:Nat}{want b c:Bool}{v:SV}:o.guard=some (j,want)->(ops[j]?).bind (·.dst)=some t->gval e 8 t want=some b->
  ac C.P o.op (opd e [(t,want)]) (ρT e [(t,want)] o.op true) (ρT e [(t,want)] o.op false) st=.val c v->imp b c=true->StepV C ops o e st (.gd t want v) st
 | gcall {j t:Nat}{want b:Bool}{f:FuncId}{args as rs':List SV}:o.guard=some (j,want)->(ops[j]?).bind (·.dst)=some t->gval e 8 t want=some b->
  ac C.P o.op (opd e [(t,want)]) (ρT e [(t,want)] o.op true) (ρT e [(t,want)] o.op false) st=.call f args->aar st args=[]->renL st (ace []) (λ_=>0) args=some as->
  (b=true->∃ rs sub',Meets C.P f as [] rs sub'/\ae8 rs sub'=some rs')->(∀ s,rs'≠[.pan s])->StepV C ops o e st (.gd t want (ac9 rs')) st
 | gcallU {j t:Nat}{want:Bool}{f:FuncId}{args as rs rs':List SV}{sub sub' bs:List BX}:o.guard=some (j,want)->(ops[j]?).bind (·.dst)=some t->gval e 8 t want=some true->
  ac C.P o.op (opd e [(t,want)]) (ρT e [(t,want)] o.op true) (ρT e [(t,want)] o.op false) st=.call f args->
  renL st (ace (aar st args)) (λ_=>0) args=some as->agx st (ace (aar st args)) (λ_=>0) (aar st args)=some sub->Meets C.P f as sub rs sub'->aem st (aar st args) rs sub'=some (rs',bs)->(∀ s,rs'≠[.pan s])->StepV C ops o e st (.gd t want (ac9 rs')) (abq (aar st args) bs st)
 | gskip {j t:Nat}{want:Bool}{f:FuncId}{args:List SV}{x:SV}:o.guard=some (j,want)->(ops[j]?).bind (·.dst)=some t->gval e 8 t want=some false->
  ac C.P o.op (opd e [(t,want)]) (ρT e [(t,want)] o.op true) (ρT e [(t,want)] o.op false) st=.call f args->StepV C ops o e st (.gd t want x) st
def a7i (C:Cfg) (o:Oper) (e:Env) (st:List BX) (s:SV) (st':List BX):Prop:=
 o.guard=none/\∃ f args H rs sub h bs,ac C.P o.op (opd e []) (ρT e [] o.op true) (ρT e [] o.op false) st=.call f args/\renL st (ace (aar st args)) (λ_=>0) args=some H/\agx st (ace (aar st args)) (λ_=>0) (aar st args)=some sub/\
  Meets C.P f H sub rs h/\aem st (aar st args) rs h=some ([.pan s],bs)/\st'=abq (aar st args) bs st
theorem a5c {R:Type}{C:Cfg} (hC:aak C) {ops:Array Oper}{o:Oper}{e:Env}{st:List BX}{K X:SV->List BX->Option R}{r:R} (h:opV C ops o e st K X=some r):(∃ v st',StepV C ops o e st v st'/\K v st'=some r)\/∃ s st',a7i C o e st s st'/\X s st'=some r:=by
 unfold opV at h;split at h
 ·rename_i hg;split at h
  ·cases h
  ·rename_i c v H;cases c with
   | false=>cases h
   | true=>exact Or.inl ⟨v,st,.val hg H,h⟩
  ·rename_i c v st' H;cases c with
   | false=>cases h
   | true=>exact Or.inl ⟨v,st',.upd hg H,h⟩
  ·cases h
  ·rename_i f args H;split at h
   ·rename_i as sub M Z;obtain ⟨rs,aa,J,hm⟩:=(hC R true f as sub _ r h).1 rfl;split at J;case h_2=>cases J
    rename_i ae bs I;rcases aef J with ⟨s,rfl,J⟩ | ⟨O,J⟩
    ·exact Or.inr ⟨s,_,⟨hg,f,args,as,rs,sub,aa,bs,H,M,Z,hm,I,rfl⟩,J⟩
    ·exact Or.inl ⟨_,_,.call hg H M Z hm I O,J⟩
   ·cases h
 ·rename_i j ag hg;split at h
  ·cases h
  ·rename_i t ht;split at h
   ·cases h
   ·rename_i b hb;split at h
    ·rename_i c v H;cases hi:imp b c with
     | false=>rw [hi] at h;cases h
     | true=>rw [hi] at h;exact Or.inl ⟨_,_,.gval hg ht hb H hi,h⟩
    ·rename_i f args H;split at h
     ·rename_i as ad M;obtain ⟨h1,ah,af,ab⟩:=hC R b f as [] _ r h;cases b with
      | true=>
       obtain ⟨rs,aa,J,hm⟩:=h1 rfl;split at J;case h_2=>cases J
       rename_i ae I;obtain ⟨O,J⟩:=adj J;exact Or.inl ⟨_,_,.gcall hg ht hb H ad M (λ_=>⟨rs,aa,hm,I⟩) O,J⟩
      | false=>
       split at ab;case h_2=>cases ab
       obtain ⟨O,ab⟩:=adj ab;exact Or.inl ⟨_,_,.gcall hg ht hb H ad M (λhb=>by cases hb) O,ab⟩
     ·cases b with
      | false=>exact Or.inl ⟨_,_,.gskip hg ht hb H,h⟩
      | true=>
       simp only [Af] at h;split at h
       ·rename_i as sub M Z;obtain ⟨rs,aa,J,hm⟩:=(hC R true f as sub _ r h).1 rfl;split at J;case h_2=>cases J
        rename_i ae bs I;obtain ⟨O,J⟩:=adj J;exact Or.inl ⟨_,_,.gcallU hg ht hb H M Z hm I O,J⟩
       ·cases h
    ·cases h
theorem aw2 {P:Program}{st:List BX}{T:TypeId}{x y:SV}{c:Bool}{v:SV}:ac4 P st T x y≠.val c v:=by intro h;unfold ac4 at h;grind
theorem atd {P:Program}{st:List BX}{T:TypeId}{x y:SV}{f:FuncId}{o:List SV}:ac4 P st T x y≠.call f o:=by intro h;unfold ac4 at h;grind
theorem anu {P:Program}{st:List BX}{T:TypeId}{x y:SV}{c:Bool}{v:SV}:ado P T st x y≠.val c v:=by intro h;unfold ado at h;grind
theorem au7 {P:Program}{st:List BX}{T:TypeId}{x y:SV}{c:Bool}{v:SV}:ad6 P T st x y≠.val c v:=by
 intro h;unfold ad6 at h;split at h
 ·split at h
  ·split at h
   ·simp only [Av] at h;split at h
    ·cases h
    ·exact anu h
   ·cases h
  ·exact anu h
 ·exact anu h
theorem ar9 {P:Program}{st:List BX}{T:TypeId}{x y:SV}{c:Bool}{v:SV}:ab8 P T st x y≠.val c v:=by
 intro h;unfold ab8 at h;simp only [Av] at h;repeat' split at h
 all_goals cases h
theorem an5 {P:Program}{st:List BX}{T:TypeId}{x y z:SV}{c:Bool}{v:SV}:aby P T st x y z≠.val c v:=by
 intro h;unfold aby at h;simp only [Av] at h;repeat' split at h
 all_goals cases h
theorem ajr {P:Program}{st:List BX}{T:TypeId}{x y z:SV}{c:Bool}{v:SV}:abr P T st x y z≠.val c v:=by intro h;unfold abr at h;grind
theorem aud {P:Program}{st:List BX}{T:TypeId}{r:Option Operand}{c:Bool}{v:SV}:ady P T r st≠.val c v:=by intro h;unfold ady at h;grind
theorem al6 {P:Program}{op:Op}{J ρt ρf:Operand->SV}{st:List BX}{m:Nat}{c:Bool}{v:SV} (h:ac P op J ρt ρf (st.take m)=.val c v):ac P op J ρt ρf st=.val c v:=by
 have H:∀ (k:Nat) (b:BX),(st.take m)[k]?=some b->st[k]?=some b:=by
  intro k b o;rw [List.getElem?_take] at o;split at o
  ·exact o
  ·cases o
 have O:∀ (k g:Nat) (E:TypeId) (xs:List PV),agv (st.take m) k g E=some xs->agv st k g E=some xs:=by
  intro k g E xs h;unfold agv at h ⊢;cases o:(st.take m)[k]? with
  | some b=>rw [o] at h;rw [H _ _ o];exact h
  | none=>rw [o] at h;cases h
 have aa:∀ (k g:Nat),aew (st.take m) k g=true->aew st k g=true:=by
  intro k g h;unfold aew at h ⊢;cases o:(st.take m)[k]? with
  | some b=>rw [o] at h;rw [H _ _ o];exact h
  | none=>rw [o] at h;cases h
 cases op with
 | nilCheck x=>
  simp only [ac] at h ⊢;generalize J x=y at h ⊢;cases y with
  | aref k g i E p T=>
   simp only at h ⊢;cases I:aew (st.take m) k g with
   | true=>rw [I] at h;rw [aa _ _ I];exact h
   | false=>rw [I] at h;cases h
  | _=>exact h
 | fieldAddr S x i=>
  simp only [ac,acs] at h ⊢;generalize J x=y at h ⊢;cases y with
  | aref k g j E p T=>
   split at h
   ·split at h
    ·rename_i f hf;cases h0:Nat.beq (P.cellsOf f.type) 0 with
     | true=>rw [h0] at h;cases h
     | false=>
      rw [h0] at h;simp only [Ah] at h ⊢;cases I:aew (st.take m) k g with
      | true=>rw [I] at h;rw [aa _ _ I];exact h
      | false=>rw [I,Bool.and_false] at h;cases h
    ·cases h
   ·cases h
  | _=>exact h
 | indexAddr T x i=>
  simp only [ac,acu] at h ⊢;cases h0:al7 P T (J x) (J i) with
  | some r=>rw [h0] at h;exact h
  | none=>
   rw [h0] at h;simp only at h ⊢;cases M:agi P T (st.take m) (J x) (J i) with
   | some r=>
    rw [M] at h;have:agi P T st (J x) (J i)=some r:=by
     unfold agi at M ⊢;split at M
     ·split at M
      ·rename_i xs h2;simp only [O _ _ _ _ h2];exact M
      ·cases M
     ·cases M
    rw [this];exact h
   | none=>
    rw [M] at h;simp only at h;have:agi P T st (J x) (J i)=none:=by
     unfold agi;split
     ·rename_i E k g E' kk n e1 e2 e3;rw [e2] at h;simp [amy] at h
     ·rfl
    rw [this];exact h
 | load T a=>
  simp only [ac,agq] at h ⊢;generalize J a=x at h ⊢;cases x with
  | ref k path Z=>
   simp only at h ⊢;cases o:(st.take m)[k]? with
   | some b=>rw [o] at h;rw [H _ _ o];exact h
   | none=>rw [o] at h;cases I:(Nat.beq T Z&&(P.underlying T).isSome)<;>rw [I] at h<;>cases h
  | eref k i E=>
   simp only at h ⊢;cases o:(st.take m)[k]? with
   | some b=>rw [o] at h;rw [H _ _ o];exact h
   | none=>rw [o] at h;cases I:(Nat.beq T E&&aa4 P E)<;>rw [I] at h<;>cases h
  | aref k g i E path Z=>
   simp only at h ⊢;cases o:agv (st.take m) k g E with
   | some xs=>rw [o] at h;rw [O _ _ _ _ o];exact h
   | none=>rw [o] at h;cases I:(Nat.beq T Z&&aa4 P E&&aa4 P T)<;>rw [I] at h<;>cases h
  | _=>exact h
 | convert s d x=>
  simp only [ac] at h ⊢;unfold ae0 at h ⊢;generalize J x=y at h ⊢;cases y with
  | asl k lo n E=>
   simp only at h ⊢;cases o:(st.take m)[k]? with
   | some b=>rw [o] at h;rw [H _ _ o];exact h
   | none=>
    rw [o] at h;split at h
    ·rename_i M h2;cases h2
    ·cases h
  | _=>exact h
 | lookup T x k ok=>
  simp only [ac] at h ⊢;unfold acy at h ⊢;cases hT:P.underlying T with
  | none=>rw [hT] at h;cases h
  | some d=>
   cases d with
   | map K E=>
    rw [hT] at h;simp only at h ⊢;generalize J x=y at h ⊢;cases y with
    | mref j=>
     simp only at h ⊢;cases o:(st.take m)[j]? with
     | some b=>rw [o] at h;rw [H _ _ o];exact h
     | none=>rw [o] at h;cases I:(keyT P K&&isOf P K (J k)&&aca P E&&isOf P E (abd P 12 E))<;>rw [I] at h<;>cases h
    | _=>exact h
   | _=>rw [hT] at h;cases h
 | call cl=>
  simp only [ac] at h ⊢;unfold aij at h ⊢;split at h
  ·cases h
  ·split at h<;>cases h
  ·split at h
   ·rename_i x T hx hT;unfold ap6 at h ⊢;generalize J x=y at h ⊢;generalize P.underlying T=u at h ⊢;cases u with
    | none=>cases h
    | some d=>
     cases d with
     | map K E=>
      cases y with
      | mref j=>
       simp only at h ⊢;cases o:(st.take m)[j]? with
       | some b=>rw [o] at h;rw [H _ _ o];exact h
       | none=>rw [o] at h;cases h
      | _=>exact h
     | slice E0=>
      cases y with
      | arr k g E=>
       simp only at h ⊢;cases o:agv (st.take m) k g E with
       | some xs=>rw [o] at h;rw [O _ _ _ _ o];exact h
       | none=>rw [o] at h;cases h
      | _=>exact h
     | _=>cases y<;>exact h
   ·cases h
  ·split at h
   ·rename_i x y T Z _ _;cases I:Nat.beq T Z with
    | true=>rw [I] at h;exact absurd h aw2
    | false=>rw [I] at h;cases h
   ·cases h
  ·exact h
  ·exact h
  ·cases h
 | store T a x=>exact absurd h au7
 | insert T a k x=>exact absurd h ajr
 | mapUpdate T a k x=>exact absurd h ajr
 | mapEntry T a k=>exact absurd h ar9
 | entryStore T a k x=>exact absurd h an5
 | makeMap T r=>exact absurd h aud
 | range T x=>simp only [ac] at h;unfold ai2 at h;split at h<;>first | (cases h;done) | (simp only [Av] at h;split at h<;>cases h)
 | next x b=>
  simp only [ac] at h;unfold am5 at h;repeat' split at h
  all_goals cases h
 | entry x=>
  simp only [ac] at h ⊢;unfold akd at h ⊢;generalize J x=y at h ⊢;cases y with
  | mitr k=>
   simp only at h ⊢;cases o:(st.take m)[k]? with
   | some b=>rw [o] at h;rw [H _ _ o];exact h
   | none=>rw [o] at h;cases h
  | _=>exact h
 | alloc T=>simp only [ac,ag1] at h;cases I:ahd P T<;>cases ab:aca P T<;>simp only [I,ab,Af,Ah] at h<;>cases h
 | box T x=>
  simp only [ac,aq8,Av] at h;repeat' split at h
  all_goals cases h
 | makeSlice T n c=>
  simp only [ac,ac8,aer,Av] at h;repeat' split at h
  all_goals cases h
 | _=>exact h
theorem ato {o:Call}{H:Operand->SV}{P:Program}{st st':List BX}{f:FuncId}{args:List SV} (h:aij o H P st=.call f args):aij o H P st'=.call f args:=by
 unfold aij at h ⊢;split at h
 ·exact h
 ·exact h
 ·exfalso;split at h
  ·unfold ap6 at h;all_goals grind
  ·cases h
 ·exfalso;split at h
  ·rename_i x y T I _ _;cases J:Nat.beq T I with
   | false=>all_goals grind
   | true=>rw [J] at h;simp only [Af] at h;exact absurd h atd
  ·cases h
 all_goals grind
theorem awq {R:Type}{C:Cfg} (hC:aak C) {ops:Array Oper}{o:Oper}{e:Env}{s0:List BX}{K:SV->Option R}{r:R} (h:opW C ops o e s0 K=some r):∃ v,(∀ (st:List BX) (m:Nat),st.take m=s0->StepV C ops o e st v st)/\K v=some r:=by
 have af:∀ {ρ ρt ρf:Operand->SV}{f:FuncId}{args:List SV},alc o.op=true->ac C.P o.op ρ ρt ρf s0=.call f args->∀ st,ac C.P o.op ρ ρt ρf st=.call f args:=by
  intro ρ ρt ρf f args M ha st;unfold alc at M;split at M
  ·rename_i cl ah;rw [ah] at ha ⊢;exact ato ha
  ·cases M
 unfold opW at h;split at h
 ·rename_i hg;split at h
  ·rename_i c v H;cases c with
   | false=>cases h
   | true=>exact ⟨v,λst m hs=>by subst hs;exact .val hg (al6 H),h⟩
  ·rename_i f args H;cases M:alc o.op with
   | false=>rw [M] at h;cases h
   | true=>
    rw [M] at h;simp only [Af] at h;split at h
    ·rename_i as ad ab;obtain ⟨rs,ae,O,hm⟩:=(hC R true f as [] _ r h).1 rfl;split at O;case h_2=>cases O
     rename_i aj I;obtain ⟨aa,O⟩:=adj O;refine ⟨_,λst m _=>?_,O⟩;have J:=ahl (st':=st) ad;have:=StepV.call (ops:=ops) (e:=e) (st:=st) (sub:=[]) hg (af M H st) (by rw [J];rw [af2 st s0];exact ab) (by rw [J];rfl) hm (by rw [J];exact aey I st) aa;rw [J] at this;have e0:abq [] [] st=st:=by simp [abq]
     rw [e0] at this;exact this
    ·cases h
  ·cases h
 ·rename_i j al hg;split at h
  ·cases h
  ·rename_i t ht;split at h
   ·cases h
   ·rename_i b hb;split at h
    ·rename_i c v H;cases ag:imp b c with
     | false=>rw [ag] at h;cases h
     | true=>rw [ag] at h;exact ⟨_,λst m ai=>by subst ai;exact .gval hg ht hb (al6 H) ag,h⟩
    ·rename_i f args H;cases M:alc o.op with
     | false=>rw [M] at h;cases h
     | true=>
      rw [M] at h;simp only [Af] at h;split at h
      ·rename_i as ad ab;obtain ⟨h1,am,ak,Z⟩:=hC R b f as [] _ r h;cases b with
       | true=>
        obtain ⟨rs,ae,O,hm⟩:=h1 rfl;split at O;case h_2=>cases O
        rename_i aj I;obtain ⟨aa,O⟩:=adj O;exact ⟨_,λst m _=>.gcall hg ht hb (af M H st) (ahl ad) (by rw [af2 st s0];exact ab) (λ_=>⟨rs,ae,hm,I⟩) aa,O⟩
       | false=>
        split at Z;case h_2=>cases Z
        obtain ⟨aa,Z⟩:=adj Z;exact ⟨_,λst m _=>.gcall hg ht hb (af M H st) (ahl ad) (by rw [af2 st s0];exact ab) (λhb=>by cases hb) aa,Z⟩
      ·cases h
    ·cases h
section
variable {Γ:Ctx}
theorem aqv {D:Dom}{ow:Own}{μ:Nat->Nat}{e:Env}{st st':List BX}{a:Act}{w:World}{C:Cfg} (hn:Γ.n=C.n) (hs:Slots Γ D ow μ e st a w) {o:Oper} (hd:aln C.n o.dst=true) (hc:∀ d,o.dst=some d->awz e d) {v:SV}{r:Result Next}
 (h:OpRes Γ D ow μ st w r v st') (s:SV) (J:∀ (D':Dom) (w':World) (H:Own) (I:Nat->Nat) (u:Value),SRep Γ.P D' w' H I st' v u->SlotRep Γ.P D' w' H I st' a s u) (Z:∀ t M x,s=.gd t M x->o.dst≠some t)
 (next:Act->World->Prop) (Q:Exit->Act->World->Prop) (O:∀ a' w',Rel Γ (put e o.dst s) st' a' w'->next a' w'):o.upon Γ.P a next Q r:=by
 obtain ⟨u,w',D',H,I,hr,hw,hm,hv⟩:=h
 have aa:Rel Γ (put e o.dst s) st' (a.put o.dst u) w':=by refine ⟨D',H,I,hw,(hs.mono hm).put o.dst s u (λx hx=>⟨by rw [hn];exact afk hd x hx,hc x hx⟩) (J _ _ _ _ _ hv) Z⟩
 grind [Oper.upon_value,Oper.upon_skip]
theorem ao6 {C:Cfg} (hP:C.P=Γ.P) (hn:Γ.n=C.n) {ops:Array Oper}{i:Nat}{o:Oper} (ho:ops[i]?=some o) {e eF:Env}{st st':List BX}{v:SV} (h:StepV C ops o e st v st') (hd:aln C.n o.dst=true)
 (aJ:∀ t,e t=.undef\/e t=eF t) {a:Act}{w:World} (aG:Rel Γ eF st a w) (hc:∀ d,o.dst=some d->awz eF d) (aC:∀ j H t,o.guard=some (j,H)->(ops[j]?).bind (·.dst)=some t->o.dst≠some t)
 (next:Act->World->Prop) (Q:Exit->Act->World->Prop) (O:(∀ u H x,v=.gd u H x->∃ j,o.guard=some (j,H)/\(ops[j]?).bind (·.dst)=some u)->∀ a' w',Rel Γ (put eF o.dst v) st' a' w'->next a' w'):wpOp Γ.P ops Q i next a w:=by
 obtain ⟨D,ow,μ,hw,hs⟩:=aG
 have ah:Slots Γ D ow μ e st a w:=⟨hs.size,hs.defers,λt=>by
  rcases aJ t with h | h
  ·rw [h];exact .undef
  ·rw [h];exact hs.slot t⟩
 unfold wpOp
 simp only [ho]
 have aE:∀ f,a.eval (.func f)=.func (.func f) #[] #[]:=λf=>rfl
 have ay:∀ x,SRep Γ.P D w ow μ st (opd e [] x) (a.eval x):=λx=>abn ah [] (λ_ hx=>by cases hx) x
 have au:∀ (gs:List (Nat×Bool)),(∀ z,z∈gs->a.tmps.getD z.1 Go.undef=.bool z.2)->∀ c x y,o.op=.pick c x y->(a.eval c=.bool true->SRep Γ.P D w ow μ st (ρT e gs o.op true x) (a.eval x))/\(a.eval c=.bool false->SRep Γ.P D w ow μ st (ρT e gs o.op false y) (a.eval y)):=by
  intro gs aF c x y aK;rw [aK];refine ⟨λhc=>?_,λhc=>?_⟩
  ·cases c with
   | tmp t=>exact abn ah ((t,true)::gs) (λz hz=>by
    rcases Bn.1 hz with rfl | hz
    ·exact hc
    ·exact aF z hz) x
   | _=>exact ay x
  ·cases c with
   | tmp t=>exact abn ah ((t,false)::gs) (λz hz=>by
    rcases Bn.1 hz with rfl | hz
    ·exact hc
    ·exact aF z hz) y
   | _=>exact ay y
 have plain:∀ {r:Result Next},OpRes Γ D ow μ st w r v st'->o.upon Γ.P a next Q r:=by
  intro r ap;have ar:∀ t H x,v≠.gd t H x:=by intro t H x hv;obtain ⟨u,w',D',aN,aO,_,_,_,aL⟩:=ap;subst hv;cases aL
  exact aqv hn hs hd hc ap v (λ_ _ _ _ _ h=>h.slot) (λt H x hv=>absurd hv (ar t H x)) next Q (O λu H x hv=>absurd hv (ar u H x))
 cases h with
 | val hg J=>
  have ag:Region.wanted o (yielded ops a.tmps)=true:=by simp [Region.wanted,hg]
  simp only [ag,A9]
  refine Or.inl ?_
  unfold Oper.wp
  rw [hP] at J
  exact plain (aex hw ay o (au [] (λ_ hx=>by cases hx)) v J)
 | upd hg J=>
  have ag:Region.wanted o (yielded ops a.tmps)=true:=by simp [Region.wanted,hg]
  simp only [ag,A9]
  refine Or.inl ?_
  unfold Oper.wp
  rw [hP] at J
  exact plain (ak7 hw ay o v st' J)
 | @call f args as rs aA sub aD bs hg J aq av hm af ab=>
  have ag:Region.wanted o (yielded ops a.tmps)=true:=by simp [Region.wanted,hg]
  simp only [ag,A9]
  refine Or.inl ?_
  unfold Oper.wp
  rw [hP] at J hm
  obtain ⟨ao,am,aw,ae⟩:=abx ay aE o f args J
  rw [am,hm.1 ao w,Oper.upon_enter]
  refine (adc hw (adm _ _) av aq aw ae hm af).mono λen w' ⟨v,D',az,aB,he,h1,h2,h3⟩=>?_
  rcases ab0 h3 with ⟨s,e,_⟩ | ⟨_,h3,al⟩
  ·exact absurd e (ab s)
  rw [al] at he
  subst he
  have ar:∀ t H x,ac9 aA≠.gd t H x:=by intro t H x hv;rw [hv] at h3;cases h3
  exact O (λu H x hv=>absurd hv (ar u H x)) _ _ ⟨D',az,aB,h1,(hs.mono h2).put o.dst _ v (λx hx=>⟨by rw [hn];exact afk hd x hx,hc x hx⟩) h3.slot (λt H x Z=>absurd Z (ar t H x))⟩
 | @gval j t H b c v hg ht hb J hi=>
  have aa:=afn ah 8 t H b hb
  have ak:=af6 (tmps:=a.tmps) hg ht
  have ai:=aC j H t hg ht
  have aj:∀ u I x,SV.gd t H v=.gd u I x->∃ j,o.guard=some (j,I)/\(ops[j]?).bind (·.dst)=some u:=by intro u I x he;cases he;exact ⟨j,hg,ht⟩
  cases b with
  | false=>
   have ab:a.tmps.getD t Go.undef≠.bool H:=λZ=>by have:=aa.1 Z;cases this
   have ax:Region.wanted o (yielded ops a.tmps)=false:=by
    cases hc:Region.wanted o (yielded ops a.tmps) with
    | false=>rfl
    | true=>exact absurd (ak.1 hc) ab
   simp only [ax,A6,A8]
   exact O aj _ _ ⟨D,ow,μ,hw,hs.put o.dst _ Go.undef (λx hx=>⟨by rw [hn];exact afk hd x hx,hc x hx⟩) ⟨λZ=>absurd Z ab,λ_=>rfl⟩ (λu I x Z M=>by cases Z;exact ai M)⟩
  | true=>
   have ad:a.tmps.getD t Go.undef=.bool H:=aa.2 rfl
   have ag:Region.wanted o (yielded ops a.tmps)=true:=ak.2 ad
   simp only [ag,A9]
   refine Or.inl ?_
   unfold Oper.wp
   have aI:c=true:=by cases c with | true=>rfl | false=>simp [imp] at hi
   subst aI
   rw [hP] at J
   have an:∀ x,SRep Γ.P D w ow μ st (opd e [(t,H)] x) (a.eval x):=λx=>abn ah [(t,H)] (λz hz=>by simp at hz;subst hz;exact ad) x
   have ap:=aex hw an o (au [(t,H)] (λz hz=>by simp at hz;subst hz;exact ad)) v J
   exact aqv hn hs hd hc ap (.gd t H v) (λ_ _ _ _ _ h=>⟨λ_=>h,λZ=>absurd ad Z⟩) (λu I x Z M=>by cases Z;exact ai M) next Q (O aj)
 | @gcall j t H b f args as aA hg ht hb J aM aq hm ab=>
  have aa:=afn ah 8 t H b hb
  have ak:=af6 (tmps:=a.tmps) hg ht
  have ai:=aC j H t hg ht
  have aj:∀ u I x,SV.gd t H (ac9 aA)=.gd u I x->∃ j,o.guard=some (j,I)/\(ops[j]?).bind (·.dst)=some u:=by intro u I x he;cases he;exact ⟨j,hg,ht⟩
  cases b with
  | false=>
   have ab:a.tmps.getD t Go.undef≠.bool H:=λZ=>by have:=aa.1 Z;cases this
   have ax:Region.wanted o (yielded ops a.tmps)=false:=by
    cases hc:Region.wanted o (yielded ops a.tmps) with
    | false=>rfl
    | true=>exact absurd (ak.1 hc) ab
   simp only [ax,A6,A8]
   exact O aj _ _ ⟨D,ow,μ,hw,hs.put o.dst _ Go.undef (λx hx=>⟨by rw [hn];exact afk hd x hx,hc x hx⟩) ⟨λZ=>absurd Z ab,λ_=>rfl⟩ (λu I x Z M=>by cases Z;exact ai M)⟩
  | true=>
   have ad:a.tmps.getD t Go.undef=.bool H:=aa.2 rfl
   have ag:Region.wanted o (yielded ops a.tmps)=true:=ak.2 ad
   simp only [ag,A9]
   refine Or.inl ?_
   unfold Oper.wp
   obtain ⟨rs,aD,hm,af⟩:=hm rfl
   rw [hP] at J hm
   have an:∀ x,SRep Γ.P D w ow μ st (opd e [(t,H)] x) (a.eval x):=λx=>abn ah [(t,H)] (λz hz=>by simp at hz;subst hz;exact ad) x
   obtain ⟨ao,am,aw,ae⟩:=abx an aE o f args J
   rw [am,hm.1 ao w,Oper.upon_enter]
   refine (adc hw (ks:=[]) (by simp) (sub:=[]) rfl aq aw ae hm (aey af st)).mono λen w' ⟨v,D',az,aB,he,h1,h2,h3⟩=>?_
   rcases ab0 h3 with ⟨s,e,_⟩ | ⟨_,h3,al⟩
   ·exact absurd e (ab s)
   rw [al] at he
   subst he
   have aH:abq [] [] st=st:=by simp [abq]
   rw [aH] at h1 h2 h3
   exact O aj _ _ ⟨D',az,aB,h1,(hs.mono h2).put o.dst _ v (λx hx=>⟨by rw [hn];exact afk hd x hx,hc x hx⟩) ⟨λ_=>h3,λZ=>absurd ad Z⟩ (λu I x Z M=>by cases Z;exact ai M)⟩
 | @gcallU j t H f args as rs aA sub aD bs hg ht hb J aq av hm af ab=>
  have aa:=afn ah 8 t H true hb
  have ak:=af6 (tmps:=a.tmps) hg ht
  have ai:=aC j H t hg ht
  have aj:∀ u I x,SV.gd t H (ac9 aA)=.gd u I x->∃ j,o.guard=some (j,I)/\(ops[j]?).bind (·.dst)=some u:=by intro u I x he;cases he;exact ⟨j,hg,ht⟩
  have ad:a.tmps.getD t Go.undef=.bool H:=aa.2 rfl
  have ag:Region.wanted o (yielded ops a.tmps)=true:=ak.2 ad
  simp only [ag,A9]
  refine Or.inl ?_
  unfold Oper.wp
  rw [hP] at J hm
  have an:∀ x,SRep Γ.P D w ow μ st (opd e [(t,H)] x) (a.eval x):=λx=>abn ah [(t,H)] (λz hz=>by simp at hz;subst hz;exact ad) x
  obtain ⟨ao,am,aw,ae⟩:=abx an aE o f args J
  rw [am,hm.1 ao w,Oper.upon_enter]
  refine (adc hw (adm _ _) av aq aw ae hm af).mono λen w' ⟨v,D',az,aB,he,h1,h2,h3⟩=>?_
  rcases ab0 h3 with ⟨s,e,_⟩ | ⟨_,h3,al⟩
  ·exact absurd e (ab s)
  rw [al] at he
  subst he
  exact O aj _ _ ⟨D',az,aB,h1,(hs.mono h2).put o.dst _ v (λx hx=>⟨by rw [hn];exact afk hd x hx,hc x hx⟩) ⟨λ_=>h3,λZ=>absurd ad Z⟩ (λu I x Z M=>by cases Z;exact ai M)⟩
 | @gskip j t H f args x hg ht hb J=>
  have aa:=afn ah 8 t H false hb
  have ak:=af6 (tmps:=a.tmps) hg ht
  have ai:=aC j H t hg ht
  have aj:∀ u I y,SV.gd t H x=.gd u I y->∃ j,o.guard=some (j,I)/\(ops[j]?).bind (·.dst)=some u:=by intro u I y he;cases he;exact ⟨j,hg,ht⟩
  have ab:a.tmps.getD t Go.undef≠.bool H:=λZ=>by have:=aa.1 Z;cases this
  have ax:Region.wanted o (yielded ops a.tmps)=false:=by
   cases hc:Region.wanted o (yielded ops a.tmps) with
   | false=>rfl
   | true=>exact absurd (ak.1 hc) ab
  simp only [ax,A6,A8]
  exact O aj _ _ ⟨D,ow,μ,hw,hs.put o.dst _ Go.undef (λx hx=>⟨by rw [hn];exact afk hd x hx,hc x hx⟩) ⟨λZ=>absurd Z ab,λ_=>rfl⟩ (λu I x Z M=>by cases Z;exact ai M)⟩
theorem au6 {C:Cfg} (hP:C.P=Γ.P) {ops:Array Oper}{i:Nat}{o:Oper} (ho:ops[i]?=some o) {e eF:Env}{st st':List BX}{s:SV} (h:a7i C o e st s st')
 (ad:∀ t,e t=.undef\/e t=eF t) {a:Act}{w:World} (M:Rel Γ eF st a w) (next:Act->World->Prop) (Q:Exit->Act->World->Prop)
 (hX:∀ v a' w',PRel Γ s st' v a' w'->Q (.panic [{ v,recovered:=false }]) a' w'):wpOp Γ.P ops Q i next a w:=by
 obtain ⟨D,ow,μ,hw,hs⟩:=M
 obtain ⟨hg,f,args,as,rs,sub,al,bs,J,ab,Z,hm,I,rfl⟩:=h
 have ae:Slots Γ D ow μ e st a w:=⟨hs.size,hs.defers,λt=>by
  rcases ad t with h | h
  ·rw [h];exact .undef
  ·rw [h];exact hs.slot t⟩
 have ai:∀ x,SRep Γ.P D w ow μ st (opd e [] x) (a.eval x):=λx=>abn ae [] (λ_ hx=>by cases hx) x
 have ah:∀ f,a.eval (.func f)=.func (.func f) #[] #[]:=λf=>rfl
 unfold wpOp
 simp only [ho]
 have ag:Region.wanted o (yielded ops a.tmps)=true:=by simp [Region.wanted,hg]
 simp only [ag,A9]
 refine Or.inl ?_
 unfold Oper.wp
 rw [hP] at J hm
 obtain ⟨aa,O,af,H⟩:=abx ai ah o f args J
 rw [O,hm.1 aa w,Oper.upon_enter]
 refine (adc hw (adm _ _) Z ab af H hm I).mono λen w' ⟨v,D',aj,ak,he,h1,h2,h3⟩=>?_
 subst he
 exact hX v a w' ⟨hs.defers,D',aj,ak,h1,h3⟩
end
end Go.Ab
namespace Go.Ab
open Go
inductive Anc (ops:Array Oper):Nat->Nat->Prop
 | edge {j:Nat}{o:Oper}{x:Edge}:ops[j]?=some o->x∈o.after->Region.binds .any x=true->Anc ops x.on j
 | step {i j:Nat}{o:Oper}{x:Edge}:ops[j]?=some o->x∈o.after->Region.binds .any x=true->Anc ops i x.on->Anc ops i j
theorem arm {acc:List Nat}{i:Nat}:∀ {es:List Edge},Nat.testBit (aga acc es) i=true->∃ x,x∈es/\Region.binds .any x=true/\(i=x.on\/Nat.testBit (acc.getD x.on 0) i=true):=by
 intro es;induction es with
 | nil=>grind [aga]
 | cons x r o=>intro h;unfold aga at h;grind
theorem aza {ops:Array Oper}:∀ (l:List Oper) (acc:List Nat),ops.toList.drop acc.length=l->(∀ j i,Nat.testBit (acc.getD j 0) i=true->Anc ops i j)->∀ j i,Nat.testBit ((ancL l acc).getD j 0) i=true->Anc ops i j:=by
 intro l;induction l with
 | nil=>intro acc _ h;exact h
 | cons o r ih=>
  intro acc hl h;unfold ancL;have ho:ops[acc.length]?=some o:=by
   have:(ops.toList.drop acc.length)[0]?=some o:=by rw [hl];rfl
   simpa using this
  have M:ops.toList.drop (acc.length+1)=r:=by
   have:(ops.toList.drop acc.length).drop 1=r:=by rw [hl];rfl
   grind [List.drop_drop]
  refine ih _ (by simpa using M) (λj i hb=>?_);by_cases hj:j<acc.length
  ·grind
  ·by_cases J:j=acc.length
   ·subst J;have I:Nat.testBit (aga acc o.after.toList) i=true:=by grind
    obtain ⟨x,O,Z,H⟩:=arm I;rcases H with rfl | H
    ·exact .edge ho (by simpa using O) Z
    ·exact .step ho (by simpa using O) Z (h _ _ H)
   grind
theorem ar8 {ops:Array Oper}{i j:Nat} (h:(mkDI ops).lt i j=true):i<j/\Anc ops i j:=by unfold DI.lt at h;simp only [Aj] at h;refine ⟨Au h.1,aza ops.toList [] (by simp) (λj i o=>by simp at o) j i h.2⟩
def Down (ops:Array Oper) (L:Array Bool):Prop:=∀ j,L.getD j false=true->∀ o,ops[j]?=some o->∀ x,x∈o.after->Region.binds .any x=true->L.getD x.on false=true
theorem azb {ops:Array Oper}{L:Array Bool} (M:Down ops L) {i j:Nat} (h:Anc ops i j) (O:∀ o,ops[j]?=some o->∀ x,x∈o.after->Region.binds .any x=true->L.getD x.on false=true):L.getD i false=true:=by
 induction h with
 | edge I J H=>grind
 | step I J H _ Z=>exact Z (M _ (O _ I _ J H))
theorem avg {t:Nat}:∀ {l:List Oper}{k i:Nat},aco t l k=some i->k<=i/\∃ o,l[i-k]?=some o/\o.dst=some t:=by
 intro l;induction l with
 | nil=>grind [aco]
 | cons o r M=>
  intro k i h;have next:aco t r (k+1)=some i->k<=i/\∃ H,(o::r)[i-k]?=some H/\H.dst=some t:=by grind
  unfold aco at h;split at h
  ·rename_i d J;cases I:Nat.beq d t with
   | true=>simp_all
   | false=>grind
  ·exact next h
theorem asb:∀ {l:List Nat},awn l=true->l.Nodup:=by
 intro l;induction l with
 | nil=>intro _;simp
 | cons x r o=>intro h;simp only [awn,Aj,Bool.not_eq_true'] at h;grind [List.nodup_cons,Nat.beq,List.any_eq_true,Nat.beq_refl]
theorem a2y {t:Nat}:∀ {l:List Oper}{k i:Nat}{o:Oper},(dsts l).Nodup->l[i]?=some o->o.dst=some t->aco t l k=some (k+i):=by
 intro l;induction l with
 | nil=>grind
 | cons x r M=>
  intro k i o I h H;have J:(dsts r).Nodup:=by grind [dsts,List.nodup_cons]
  cases i with
  | zero=>simp at h;subst h;unfold aco;simp [H]
  | succ i=>grind [dsts,List.mem_of_getElem?,aco,Nat.beq,Nat.eq_of_beq_eq_true,absurd,List.nodup_cons]
theorem aec {f:Nat->Oper->Bool}:∀ {l:List Oper}{k:Nat},aj7 f l k=true->∀ i o,l[i]?=some o->f (k+i) o=true:=by
 intro l;induction l with
 | nil=>grind
 | cons x r I=>intro k h i o H;simp only [aj7,Aj] at h;grind
theorem arn:∀ {l:List Oper}{k:Nat},apq l k=true->∀ i o,l[i]?=some o->∀ x,x∈o.after->Region.binds .any x=true->x.on<k+i:=by
 intro l;induction l with
 | nil=>grind
 | cons y r M=>
  intro k h i o H x I J;simp only [apq,Aj,Bs] at h;cases i with
  | zero=>simp at H;subst H;have:=h.1 x (by simpa using I);simp_all
  | succ i=>grind
structure DStep (C:Cfg) (d:DI) (ops:Array Oper) (n0 j:Nat) (o:Oper) (e:Env) (st:List BX) (v:SV) (st':List BX) (lk lk':List LM):Prop where
 dst:aln C.n o.dst=true
 gd:gdOk d j o=true
 upd:d.upd j o=true->(bif ac2 o.op then d.isN j else d.isA j)=true/\n0<=st.length/\n0<=st'.length/\(d.soft o=true->a06 n0 o (d.mask j e)=true)/\StepV C ops o (d.mask j e) st v st'
 non:d.upd j o=false->st'=st/\∀ st2,(d.isA j=true->st2=st)->(d.isA j=false->st2.take (bif d.isB j then n0 else 0)=st.take (bif d.isB j then n0 else 0))->lmOf d n0 j o (d.mask j e) lk=none->StepV C ops o (d.mask j e) st2 v st2
 lm:∀ p,d.upd j o=false->lmOf d n0 j o (d.mask j e) lk=some p->rdAc C.P p st=.val true v/\{ p with v:=v }∈lk'
 log:∀ p,p∈lk'->p.u=true->p∈lk\/(p.j=j/\d.upd j o=true/\p.f=λk=>ai1 C o (d.mask j e) st k)
 sub:∀ p,p∈lk->p∈lk'
 ok:d.upd j o=true->∀ p,p∈lk->p.u=false->d.cmp p.j j=false->(ac2 o.op||d.soft o)=true\/ai1 C o (d.mask j e) st p.k=true\/rdAc C.P p st'=.val true p.v\/(p.q.isSome=true/\ap4 o.op=true)
structure DPan (C:Cfg) (d:DI) (n0 j:Nat) (o:Oper) (e:Env) (st:List BX) (sp:SV) (st':List BX):Prop where
 upd:d.upd j o=true
 ext:ac2 o.op=false
 isA:d.isA j=true
 last:d.last j=true
 len:n0<=st.length
 step:a7i C o (d.mask j e) st sp st'
theorem asp {a:Ac}{v:SV} (h:au0 a v=true):a=.val true v:=by unfold au0 at h;split at h;all_goals simp_all
theorem ar5 {d:DI}{M j:Nat}{o:Oper}{e:Env}{J:List LM}{p:LM} (h:lmOf d M j o e J=some p):o.guard=none/\(alc o.op=false/\∀ (P:Program) (ρt ρf:Operand->SV) (st:List BX),ac P o.op (opd e []) ρt ρf st=rdAc P p st)/\a1m p=some p.k/\p.k<M/\p.j=j/\d.isA j=false/\p.u=false/\
 aj7 (λi x=>!(d.upd i x)||Nat.ble j i||d.cmp i j||ar6 J i p.k) d.l 0=true:=by
 unfold lmOf at h
 split at h
 ·rename_i T a O I;split at h
  ·rename_i k Z;cases H:(Nat.blt k M&&!(d.isA j)&&!(d.isB j)&&aj7 (λi x=>!(d.upd i x)||Nat.ble j i||d.cmp i j||ar6 J i k) d.l 0) with
   | false=>rw [H] at h;cases h
   | true=>rw [H] at h;simp only [Af,Al] at h;subst h;simp only [Aj,Bool.not_eq_true'] at H;exact ⟨O,⟨by rw [I];rfl,λP ρt ρf st=>by rw [I];rfl⟩,Z,Au H.1.1.1,rfl,H.1.1.2,rfl,H.2⟩
  ·cases h
 ·rename_i T m x O I;split at h
  ·rename_i k Z;cases H:(Nat.blt k M&&!(d.isA j)&&!(d.isB j)&&aj7 (λi x=>!(d.upd i x)||Nat.ble j i||d.cmp i j||ar6 J i k) d.l 0) with
   | false=>rw [H] at h;cases h
   | true=>rw [H] at h;simp only [Af,Al] at h;subst h;simp only [Aj,Bool.not_eq_true'] at H;exact ⟨O,⟨by rw [I];rfl,λP ρt ρf st=>by rw [I];show acy P T st (opd e [] m) (opd e [] x) false=_;rw [Z];rfl⟩,rfl,Au H.1.1.1,rfl,H.1.1.2,rfl,H.2⟩
  ·cases h
 ·cases h
theorem ba1 {R:Type}{C:Cfg}{ops:Array Oper}{o:Oper}{e:Env}{st:List BX}{K:SV->Option R}{r:R}{p:LM} (h:opW C ops o e st K=some r) (M:o.guard=none) (J:alc o.op=false) (I:∀ (P:Program) (ρt ρf:Operand->SV) (st:List BX),ac P o.op (opd e []) ρt ρf st=rdAc P p st):∃ v,rdAc C.P p st=.val true v/\K v=some r:=by
 unfold opW at h;rw [M] at h;simp only [I] at h;split at h
 ·rename_i c v H;cases c with
  | false=>cases h
  | true=>exact ⟨v,H,h⟩
 ·rw [J] at h;cases h
 ·cases h
theorem ayl {R:Type}{C:Cfg} (hC:aak C) {d:DI}{ops:Array Oper}{n0:Nat}{r:R}{K:Env->List BX->Option R}{X:SV->List BX->Option R}:∀ (l:List Oper) (j:Nat) (e:Env) (st:List BX) (lk:List LM),runD C d ops n0 l j e st lk K X=some r->
 ∃ (N:Nat) (v:Nat->SV) (s:Nat->List BX) (E:Nat->Env) (LK:Nat->List LM),s j=st/\E j=e/\LK j=lk/\N<=l.length/\(∀ i o,i<N->l[i]?=some o->DStep C d ops n0 (j+i) o (E (j+i)) (s (j+i)) (v (j+i)) (s (j+i+1)) (LK (j+i)) (LK (j+i+1))/\E (j+i+1)=put (E (j+i)) o.dst (v (j+i)))/\
  ((N=l.length/\K (E (j+N)) (s (j+N))=some r)\/∃ o sp st',l[N]?=some o/\DPan C d n0 (j+N) o (E (j+N)) (s (j+N)) sp st'/\X sp st'=some r):=by
 intro l
 induction l with
 | nil=>intro j e st lk h;exact ⟨0,λ_=>.undef,λ_=>st,λ_=>e,λ_=>lk,rfl,rfl,rfl,by simp,λi o _ h=>by simp at h,Or.inl ⟨rfl,h⟩⟩
 | cons o l ih=>
  intro j e st lk h
  unfold runD at h
  cases hg:(aln C.n o.dst&&gdOk d j o) with
  | false=>rw [hg] at h;cases h
  | true=>
   rw [hg] at h
   simp only [Af] at h
   simp only [Aj] at hg
   have key:(∃ v0 st' ae,DStep C d ops n0 j o e st v0 st' lk ae/\runD C d ops n0 l (j+1) (put e o.dst v0) st' ae K X=some r)\/∃ sp st',DPan C d n0 j o e st sp st'/\X sp st'=some r:=by
    cases hu:d.upd j o with
    | true=>
     rw [hu] at h;simp only [Af] at h;cases hA:((bif ac2 o.op then d.isN j else d.isA j)&&Nat.ble n0 st.length&&(!(d.soft o)||a06 n0 o (d.mask j e))) with
     | false=>rw [hA] at h;cases h
     | true=>
      rw [hA] at h;simp only [Af] at h;simp only [Aj,Bd,Bool.not_eq_true'] at hA;obtain ⟨⟨ab,af⟩,ah⟩:=hA;rcases a5c hC h with ⟨v0,st',hs,I⟩ | ⟨sp,st',hs,I⟩
      ·refine Or.inl ?_;cases Z:(Nat.ble n0 st'.length&&lmOk C d j o (d.mask j e) st st' lk) with
       | false=>rw [Z] at I;cases I
       | true=>
        rw [Z] at I;simp only [Aj] at Z;refine ⟨v0,st',_,⟨hg.1,hg.2,λ_=>⟨ab,Au af,Au Z.1,λhx=>?_,hs⟩,λM=>absurd M (by rw [hu];decide),λp M=>absurd M (by rw [hu];decide),λp hp _=>?_,λp hp=>List.mem_append_left _ hp,λ_ p hp ad ai=>?_⟩,I⟩
        ·rcases ah with h2 | h2
         ·rw [hx] at h2;cases h2
         ·exact h2
        ·rcases Bo.1 hp with hp | hp
         ·exact Or.inl hp
         ·rw [List.mem_singleton] at hp;subst hp;exact Or.inr ⟨rfl,hu,rfl⟩
        ·have J:=Bs.1 Z.2 p hp;rw [ai,ad] at J;simp only [Bool.false_or,Bd] at J;rcases J with (((J | J) | J) | J) | J
         ·exact Or.inl (by rw [J];rfl)
         ·exact Or.inl (by rw [J];simp)
         ·exact Or.inr (Or.inl J)
         ·exact Or.inr (Or.inr (Or.inl (asp J)))
         ·simp only [Aj] at J;exact Or.inr (Or.inr (Or.inr J))
      ·refine Or.inr ⟨sp,st',?_⟩;cases Z:(d.last j&&!(ac2 o.op)) with
       | false=>rw [Z] at I;cases I
       | true=>rw [Z] at I;simp only [Aj,Bool.not_eq_true'] at Z;rw [Z.2] at ab;exact ⟨⟨hu,Z.2,ab,Z.1,Au af,hs⟩,I⟩
    | false=>
     rw [hu] at h;simp only [Ah] at h;refine Or.inl ?_;cases O:lmOf d n0 j o (d.mask j e) lk with
     | some p=>
      rw [O] at h;simp only at h;obtain ⟨aj,⟨ak,al⟩,_,_,_,ao,ad,_⟩:=ar5 O;obtain ⟨v0,Z,I⟩:=ba1 h aj ak al;refine ⟨v0,st,_,⟨hg.1,hg.2,λM=>absurd M (by rw [hu];decide),λ_=>⟨rfl,λaa _ _ hn=>?_⟩,λq _ H=>?_,λq H am=>?_,λq H=>List.mem_append_left _ H,λM=>absurd M (by rw [hu];decide)⟩,I⟩
      ·rw [O] at hn;cases hn
      ·rw [O] at H;cases H;exact ⟨Z,by simp⟩
      ·rcases Bo.1 H with H | H
       ·exact Or.inl H
       ·rw [List.mem_singleton] at H;subst H;exact absurd am (by simp [ad])
     | none=>
      rw [O] at h;simp only at h;cases hA:d.isA j with
      | true=>rw [hA] at h;simp only [Af] at h;obtain ⟨v0,hs,I⟩:=awq hC h;refine ⟨v0,st,lk,⟨hg.1,hg.2,λM=>absurd M (by rw [hu];decide),λ_=>⟨rfl,λaa h1 _ _=>?_⟩,λq _ H=>absurd H (by rw [O];simp),λ_ H _=>Or.inl H,λ_ H=>H,λM=>absurd M (by rw [hu];decide)⟩,I⟩;exact hs aa aa.length (by rw [List.take_length,h1 hA])
      | false=>rw [hA] at h;simp only [Ah] at h;obtain ⟨v0,hs,I⟩:=awq hC h;exact ⟨v0,st,lk,⟨hg.1,hg.2,λM=>absurd M (by rw [hu];decide),λ_=>⟨rfl,λaa _ h1 _=>hs aa _ (h1 hA)⟩,λq _ H=>absurd H (by rw [O];simp),λ_ H _=>Or.inl H,λ_ H=>H,λM=>absurd M (by rw [hu];decide)⟩,I⟩
   rcases key with ⟨v0,st',ae,hs,I⟩ | ⟨sp,st',hp,I⟩
   ·obtain ⟨N,v,s,E,LK,h1,h2,ag,hN,J,h4⟩:=ih (j+1) _ _ _ I;refine ⟨N+1,λi=>if i=j then v0 else v i,λi=>if i=j then st else s i,λi=>if i=j then e else E i,λi=>if i=j then lk else LK i,by simp,by simp,by simp,by simpa using hN,λi x an hi=>?_,?_⟩
    ·cases i with
     | zero=>simp at hi;subst hi;simp only [Nat.add_zero,A9];rw [if_neg (by omega),if_neg (by omega),if_neg (by omega),h1,h2,ag];exact ⟨hs,rfl⟩
     | succ i=>
      have:=J i x (by omega) (by simpa using hi);have e1:j+(i+1)=j+1+i:=by omega
      rw [e1];simp only [if_neg (show ¬(j+1+i=j) by omega),if_neg (show ¬(j+1+i+1=j) by omega)];exact this
    ·rw [show j+(N+1)=j+1+N by omega];simp only [if_neg (show ¬(j+1+N=j) by omega)];rcases h4 with ⟨h4,h5⟩ | ⟨o',sp,st',h4,h5,h6⟩
     ·exact Or.inl ⟨by simp [h4],h5⟩
     ·exact Or.inr ⟨o',sp,st',by simpa using h4,h5,h6⟩
   ·exact ⟨0,λ_=>.undef,λ_=>st,λ_=>e,λ_=>lk,rfl,rfl,rfl,by simp,λi o h=>by omega,Or.inr ⟨o,sp,st',rfl,hp,I⟩⟩
end Go.Ab
namespace Go.Ab
open Go
theorem al5 {P:Program}{op:Op}{o ρt ρf:Operand->SV}{st:List BX} (h:ac2 op=true):ac P op o ρt ρf st=match extV P op o st.length with | some (v,b)=>.upd true v (st++[b]) | none=>.fail:=by
 unfold ac2 at h;split at h
 ·rename_i T;simp only [ac,ag1,extV];grind
 ·rename_i T x;simp only [ac,aq8,extV];grind
 ·rename_i T r;simp only [ac,ady,extV];split<;>rfl
 ·cases h
theorem aps {C:Cfg}{ops:Array Oper}{o:Oper}{e:Env}{st st':List BX}{v:SV} (J:ac2 o.op=true) (h:StepV C ops o e st v st'):o.guard=none/\∃ b,st'=st++[b]/\extV C.P o.op (opd e []) st.length=some (v,b):=by
 cases h with
 | val I H=>rw [al5 J] at H;split at H<;>cases H
 | gval I O M H=>rw [al5 J] at H;split at H<;>cases H
 | gcall I O M H=>rw [al5 J] at H;split at H<;>cases H
 | gcallU I O M H=>rw [al5 J] at H;split at H<;>cases H
 | gskip I O M H=>rw [al5 J] at H;split at H<;>cases H
 | call I H=>rw [al5 J] at H;split at H<;>cases H
 | upd I H=>
  rw [al5 J] at H;split at H
  ·rename_i v' b Z;cases H;exact ⟨I,b,rfl,Z⟩
  ·cases H
theorem av0 {C:Cfg}{ops:Array Oper}{o:Oper}{e:Env}{st st':List BX}{v:SV}{H:Nat} (I:ac2 o.op=true) (h:StepV C ops o e st v st') (J:H<=st.length):st'.take H=st.take H:=by obtain ⟨_,b,rfl,_⟩:=aps I h;grind
theorem agu {P:Program}{T:TypeId}{a x:Operand}{o ρt ρf:Operand->SV}{st:List BX}{f:FuncId}{args:List SV} (h:ac P (.store T a x) o ρt ρf st=.call f args):False:=by
 simp only [ac,ad6,ado,Av] at h;repeat' split at h
 all_goals cases h
theorem asu {C:Cfg}{ops:Array Oper}{o:Oper}{e:Env}{st st':List BX}{v:SV}{M:Nat} (J:a06 M o e=true) (h:StepV C ops o e st v st'):st'.take M=st.take M:=by
 unfold a06 at J;split at J;case h_2=>cases J
 rename_i T a x I;split at J;case h_2=>cases J
 rename_i k p T' ha;have hk:M<=k:=Au J;cases h with
 | val=>rfl
 | gval=>rfl
 | gcall=>rfl
 | upd O H=>
  rw [I] at H;simp only [ac,ad6,ado,ha,Av] at H;repeat' split at H
  all_goals first
   | (cases H;done)
   | (
    obtain ⟨_,_,rfl⟩:=Ac.upd.inj H
    apply List.ext_getElem?
    intro i
    by_cases Z:i<M
    ·rw [List.getElem?_take_of_lt Z,List.getElem?_take_of_lt Z,Aq (by omega)]
    ·rw [Bb (by simp;omega),Bb (by simp;omega)])
 | gskip=>rfl
 | gcallU O ht hb H=>exfalso;rw [I] at H;exact agu H
 | call O H=>exfalso;rw [I] at H;exact agu H
theorem aw3:∀ (ks:List Nat) (bs st:List BX) (k:Nat),k∉ks->k<st.length->(abq ks bs st)[k]?=st[k]?:=by
 intro ks;induction ks with
 | nil=>grind [abq,List.getElem?_append_left]
 | cons x r H=>
  intro bs st k o h;cases bs with
  | nil=>rfl
  | cons b q=>grind [abq,List.getElem?_set_ne]
theorem ajt {C:Cfg}{ops:Array Oper}{o:Oper}{e:Env}{st st':List BX}{v:SV}{k:Nat} (hk:k<st.length) (h:StepV C ops o e st v st') (I:ai1 C o e st k=true):st'[k]?=st[k]?:=by
 unfold ai1 at I;cases h with
 | val=>rfl
 | gval=>rfl
 | gcall=>rfl
 | gskip=>rfl
 | gcallU hg=>rw [hg] at I;simp at I
 | upd hg H=>
  rw [hg] at I;have I:(match (none:Option (Nat×Bool)),ac C.P o.op (opd e []) (ρT e [] o.op true) (ρT e [] o.op false) st with | none,.call _ args=>!((aar st args).any (Nat.beq k)) | none,.upd _ _ _=>awo o.op e k | _,_=>false)=true:=I;rw [H] at I;simp only at I;unfold awo at I;split at I;case h_3=>cases I
  case h_2=>
   rename_i c O
   split at I
   case h_2=>cases I
   rename_i x y Z M
   rw [O] at H
   simp only [ac,aij,Z,M] at H
   split at H
   case h_2=>cases H
   rename_i x' y' T T' aa ae
   simp only [List.cons.injEq,and_true] at aa
   obtain ⟨rfl,rfl⟩:=aa
   cases hT:Nat.beq T T' with
   | false=>rw [hT] at H;cases H
   | true=>
   rw [hT] at H
   simp only [Af] at H
   have put:∀ (j:Nat) (b:BX),(!(Nat.beq j k))=true->(st.set j b)[k]?=st[k]?:=λj b hb=>Aq (λe=>by subst e;simp at hb)
   have ad:∀ (b:BX),(st++[b])[k]?=st[k]?:=λb=>Ax hk
   unfold ac4 at H
   split at H
   case h_2=>cases H
   simp only [Av] at H
   split at H
   case isFalse=>cases H
   split at I
   all_goals first
    | (cases I;done)
    | (
     rename_i hx
     rw [hx] at H
     (try dsimp only at H)
     repeat' split at H
     all_goals first
      | (cases H;done)
      | contradiction
      | (obtain ⟨_,_,rfl⟩:=Ac.upd.inj H;exact put _ _ I)
      | (obtain ⟨_,_,rfl⟩:=Ac.upd.inj H;exact ad _)
      | (obtain ⟨_,_,rfl⟩:=Ac.upd.inj H;rfl))
  rename_i T a x O;split at I;case h_2=>cases I
  rename_i i J;rw [Aj] at I;obtain ⟨I,af⟩:=I;have ab:i≠k:=λh=>by subst h;rw [Bi] at I;cases I
  rw [O] at H;unfold ao3 at J;split at J;all_goals (try cases J)
  all_goals
   rename_i ha
   simp only [ac,ad6,ado,ha,Av] at H
   repeat' split at H
   all_goals first
    | (cases H;done)
    | (
     obtain ⟨_,_,rfl⟩:=Ac.upd.inj H
     rw [Aq ab];done)
    | (
     obtain ⟨_,_,rfl⟩:=Ac.upd.inj H
     rw [Aq ab,Aq (λej=>by subst ej;simp_all [Bi])])
 | @call f args _ _ _ _ _ _ hg H _ _ _ _ _=>rw [hg] at I;have I:(match (none:Option (Nat×Bool)),ac C.P o.op (opd e []) (ρT e [] o.op true) (ρT e [] o.op false) st with | none,.call _ args=>!((aar st args).any (Nat.beq k)) | none,.upd _ _ _=>awo o.op e k | _,_=>false)=true:=I;rw [H] at I;simp only [Bool.not_eq_true'] at I;refine aw3 _ _ _ _ (λhm=>?_) hk;have:(aar st args).any (Nat.beq k)=true:=List.any_eq_true.2 ⟨k,hm,Bi k⟩;rw [I] at this;cases this
theorem at9 {P:Program}{T:TypeId}{a:SV}{k:Nat}{st st':List BX} (o:ao3 a=some k) (h:st'[k]?=st[k]?):agq P T st' a=agq P T st a:=by unfold ao3 at o;grind [agq,agv]
theorem ajx {P:Program}{p:LM}{k:Nat}{st st':List BX} (o:a1m p=some k) (h:st'[k]?=st[k]?):rdAc P p st'=rdAc P p st:=by
 unfold a1m at o;unfold rdAc;cases H:p.q with
 | none=>rw [H] at o;exact at9 o h
 | some key=>
  rw [H] at o;simp only at o;split at o
  ·rename_i J I;cases o;simp only;rw [I];simp only [acy,h]
  ·cases o
theorem a1f (es:List (PV×PV)) (k key z:PV):(PV.mget (PV.mput es k ((PV.mget es k).getD z)) key).getD z=(PV.mget es key).getD z:=by
 cases I:PV.mget es k with
 | some y=>
  have:∀ (es:List (PV×PV)),PV.mget es k=some y->PV.mput es k y=es:=by
   intro es;induction es with
   | nil=>intro h;cases h
   | cons e r H=>
    intro h;unfold PV.mput;cases o:ajk k e.1 with
    | true=>simp [PV.mget,o] at h;subst h;rfl
    | false=>simp only [Ah];rw [H (by simpa [PV.mget,o] using h)]
  simp only [Option.getD_some];rw [this es I]
 | none=>
  have:∀ (es:List (PV×PV)) (y:PV),PV.mget es k=none->PV.mput es k y=es++[(k,y)]:=by
   intro es y;induction es with
   | nil=>intro _;rfl
   | cons e r H=>
    intro h;unfold PV.mput;cases o:ajk k e.1 with
    | true=>simp [PV.mget,o] at h
    | false=>simp only [Ah];rw [H (by simpa [PV.mget,o] using h)];rfl
  simp only [Option.getD_none];rw [this es z I];unfold PV.mget;rw [List.find?_append];cases es.find? λe=>ajk key e.1 with
  | some e=>rfl
  | none=>cases o:ajk key k<;>simp [o]
theorem aes {P:Program}{T:TypeId}{a x:Operand}{o ρt ρf:Operand->SV}{st:List BX}{f:FuncId}{args:List SV} (h:ac P (.mapEntry T a x) o ρt ρf st=.call f args):False:=by
 simp only [ac,ab8,Av] at h;repeat' split at h
 all_goals cases h
theorem atv {C:Cfg}{ops:Array Oper}{o:Oper}{e:Env}{st st':List BX}{v:SV}{p:LM} (hx:ap4 o.op=true) (hq:p.q.isSome=true) (h:StepV C ops o e st v st'):rdAc C.P p st'=rdAc C.P p st:=by
 unfold ap4 at hx;split at hx;case h_2=>cases hx
 rename_i T m x I;cases h with
 | val=>rfl
 | gval=>rfl
 | gcall=>rfl
 | gskip=>rfl
 | gcallU hg ht hb H=>rw [I] at H;exact (aes H).elim
 | call hg H=>rw [I] at H;exact (aes H).elim
 | upd hg H=>
  rw [I] at H;simp only [ac] at H;unfold ab8 at H;split at H
  ·rename_i K E hT;simp only [Av] at H;split at H;case isFalse=>cases H
   split at H;case h_2=>cases H
   rename_i b hb;split at H;case h_2=>cases H
   rename_i K' E' es hk;split at H;case isFalse=>cases H
   rename_i hE;simp only [Aj] at hE;have:=Ae hE.1;subst this;have:=Ae hE.2;subst this;obtain ⟨_,_,rfl⟩:=Ac.upd.inj H;obtain ⟨key,O⟩:=Option.isSome_iff_exists.1 hq;unfold rdAc;rw [O];simp only;cases hp:p.a with
   | mref b'=>
    by_cases M:b'=b
    ·subst M;have aa:=(Bg.1 hk).1;unfold acy;split
     ·rename_i K2 Z ab;cases hc:(keyT C.P K2&&isOf C.P K2 key&&aca C.P Z&&isOf C.P Z (abd C.P 12 Z)) with
      | false=>rfl
      | true=>
       simp only [Af];rw [List.getElem?_set_self aa,hk];simp only;cases J:(Nat.beq K2 K&&Nat.beq Z E) with
       | false=>rfl
       | true=>simp only [Aj] at J;have:=Ae J.2;subst this;simp only [Af];unfold ai0;simp only [a1f];rfl
     ·rfl
    ·simp only [acy,Aq (show b≠b' from λh=>M h.symm)]
   | _=>rfl
  ·cases H
theorem abk {L:Array Bool}{j i:Nat} (o:j<L.size):(L.setIfInBounds j true).getD i false=if i=j then true else L.getD i false:=by
 by_cases h:i=j
 ·simp_all
 ·have:j≠i:=λe=>h e.symm;simp_all
theorem af3 (n i:Nat):(Array.replicate n false).getD i false=false:=by by_cases h:i<n<;>simp [h]
def envL (ops:Array Oper) (v:Nat->SV) (e:Env) (L:Array Bool):Env:=λt=>match aco t ops.toList 0 with | some i=>if L.getD i false=true then v i else e t | none=>e t
def unl (n:Nat) (L:Array Bool):Nat:=((List.range n).filter λi=>!L.getD i false).length
theorem az3 {p q:Nat->Bool}{j:Nat} (J:∀ i,q i=true->p i=true) (H:p j=true) (I:q j=false):∀ {l:List Nat},j∈l->(l.filter q).length<(l.filter p).length:=by
 intro l;have le:∀ l:List Nat,(l.filter q).length<=(l.filter p).length:=by
  intro l;induction l with
  | nil=>simp
  | cons x r o=>grind
 induction l with
 | nil=>intro h;cases h
 | cons x r o=>grind
section
variable {Γ:Ctx}
def ape (ops:Array Oper) (i:Nat):Prop:=∃ o,ops[i]?=some o/\(mkDI ops).upd i o=true
def ae7 (ops:Array Oper) (i:Nat):Prop:=∃ o,ops[i]?=some o/\ac2 o.op=true
def NUpd (ops:Array Oper) (i:Nat):Prop:=∃ o,ops[i]?=some o/\(mkDI ops).upd i o=true/\ac2 o.op=false
theorem apt {d:DI}{j:Nat}{o:Oper} (h:ac2 o.op=true):d.upd j o=true:=by
 unfold DI.upd;have:a0m o.op=true:=by
  unfold ac2 at h;split at h
  ·rename_i H;rw [H];rfl
  ·rename_i H;rw [H];rfl
  ·rename_i H;rw [H];rfl
  ·cases h
 rw [this];rfl
structure Part (ops:Array Oper) (s:Nat->List BX) (L:Array Bool) (k:Nat) (σ:List BX):Prop where
 len:(s k).length<=σ.length
 pre:∀ p,p<(s k).length->σ[p]?=(s k)[p]?
 fil:∀ i b,k<=i->ae7 ops i->L.getD i false=true->s (i+1)=s i++[b]->σ[(s i).length]?=some b
 hol:∀ p,(s k).length<=p->p<σ.length->σ[p]?=some .hole\/∃ i,k<=i/\ae7 ops i/\L.getD i false=true/\(s i).length=p
 top:σ.length=(s k).length\/∃ i,k<=i/\ae7 ops i/\L.getD i false=true/\σ.length=(s i).length+1
section
variable {ops:Array Oper}{s:Nat->List BX} (hE:∀ i,ae7 ops i->∃ b,s (i+1)=s i++[b]) (hN:∀ i,i<ops.size->¬ape ops i->s (i+1)=s i)
include hE hN
theorem asd {i:Nat} (I:i<ops.size) (O:¬NUpd ops i):(ae7 ops i/\∃ b,s (i+1)=s i++[b])\/(¬ae7 ops i/\s (i+1)=s i):=by
 have J:ops[i]?=some ops[i]:=Array.getElem?_eq_getElem I;cases hx:ac2 ops[i].op with
 | true=>grind [ae7]
 | false=>
  refine Or.inr ⟨λM=>?_,hN i I λZ=>?_⟩
  ·obtain ⟨o,h,H⟩:=M;grind
  ·obtain ⟨o,h,H⟩:=Z;rw [J] at h;cases h;exact O ⟨_,J,H,hx⟩
theorem ajv {p q:Nat} (J:p<=q) (hq:q<=ops.size) (o:∀ i,p<=i->i<q->¬NUpd ops i):∃ I,s q=s p++I:=by
 induction q with
 | zero=>simp_all
 | succ q M=>
  by_cases Z:p=q+1
  ·all_goals simp_all
  ·obtain ⟨I,h⟩:=M (by omega) (by omega) (λi H O=>o i H (by omega));rcases asd hE hN (i:=q) (by omega) (o q (by omega) (by omega)) with ⟨_,b,H⟩ | ⟨_,H⟩;all_goals grind
theorem akt {p q x:Nat} (O:p<=q) (Z:q<=ops.size) (h:∀ i,p<=i->i<q->¬NUpd ops i) (o:(s p).length<=x) (I:x<(s q).length):∃ i,p<=i/\i<q/\ae7 ops i/\(s i).length=x:=by
 induction q with
 | zero=>grind
 | succ q ih=>
  by_cases M:p=q+1
  ·subst M;omega
  ·have H:∀ i,p<=i->i<q->¬NUpd ops i:=λi o I=>h i o (by omega);rcases asd hE hN (i:=q) (by omega) (h q (by omega) (by omega)) with ⟨hx,b,J⟩ | ⟨_,J⟩;all_goals grind
theorem aqf {i q:Nat} (J:i<q) (M:q<=ops.size) (H:∀ o,i<o->o<q->¬NUpd ops o) {b:BX} (h:s (i+1)=s i++[b]):(s q)[(s i).length]?=some b/\(s i).length<(s q).length:=by obtain ⟨τ,Z⟩:=ajv hE hN (p:=i+1) (q:=q) (by omega) M (λo O I=>H o (by omega) I);grind
theorem afx {L:Array Bool}{k j:Nat}{σ:List BX} (P:Part ops s L k σ) (M:k<=j) (hj:j<=ops.size) (o:∀ i,k<=i->i<j->¬NUpd ops i) (H:∀ i,k<=i->i<j->ae7 ops i->L.getD i false=true) (ad:∀ i,j<=i->ae7 ops i->L.getD i false=false):σ=s j:=by
 have lt:∀ i,k<=i->ae7 ops i->L.getD i false=true->i<j:=λi h1 h2 h3=>by grind
 have af:σ.length=(s j).length:=by
  rcases P.top with h | ⟨i,h1,h2,h3,h4⟩
  ·by_cases hc:(s k).length<(s j).length
   ·exfalso;obtain ⟨i,Z,J,I,q4⟩:=akt hE hN M hj o (Nat.le_refl _) hc;obtain ⟨b,hb⟩:=hE i I;have:=P.fil i b Z I (H i Z J I) hb;grind
   ·obtain ⟨τ,ht⟩:=ajv hE hN M hj o;grind
  ·have ab:=lt i h1 h2 h3;obtain ⟨b,hb⟩:=hE i h2;have ah:=(aqf hE hN ab hj (λO Z J=>o O (by omega) J) hb).2;by_cases hc:(s i).length+1<(s j).length
   ·exfalso;have ag:(s (i+1)).length=(s i).length+1:=by rw [hb];simp
    obtain ⟨O,Z,J,I,q4⟩:=akt hE hN (p:=i+1) (q:=j) (by omega) hj (λO Z J=>o O (by omega) J) (x:=(s i).length+1) (by omega) hc;obtain ⟨b',aa⟩:=hE O I;have:=P.fil O b' (by omega) I (H O (by omega) J I) aa;grind
   ·omega
 obtain ⟨τ,ht⟩:=ajv hE hN M hj o;apply List.ext_getElem?;intro p;by_cases h1:p<(s k).length
 ·rw [P.pre p h1,ht,Ax h1]
 ·by_cases h2:p<(s j).length
  ·obtain ⟨i,Z,J,I,q4⟩:=akt hE hN M hj o (by omega) h2;obtain ⟨b,hb⟩:=hE i I;have e1:=P.fil i b Z I (H i Z J I) hb;have e2:=(aqf hE hN J hj (λO ai ae=>o O (by omega) ae) hb).1;grind
  grind
theorem a1j {L L':Array Bool}{k j:Nat}{M:List BX} (P:Part ops s L k M) (ab:k<=j) (hj:j<ops.size) (ad:∀ i,k<=i->i<j->¬NUpd ops i) (ae:∀ i,k<=i->ae7 ops i->L.getD i false=true->∀ i',k<=i'->i'<i->¬NUpd ops i')
 (hx:ae7 ops j) {b:BX} (hb:s (j+1)=s j++[b]) (ak:L.getD j false=false) (hL:∀ i,L'.getD i false=if i=j then true else L.getD i false):
 (∃ n,(s j).length=(M++List.replicate n BX.hole).length/\Part ops s L' k (M++List.replicate n .hole++[b]))\/(M[(s j).length]?=some .hole/\Part ops s L' k (M.set (s j).length b)):=by
 obtain ⟨τ,ht⟩:=ajv hE hN ab (by omega) ad
 have ah:(s k).length<=(s j).length:=by rw [ht];simp
 have aj:∀ i,L.getD i false=true->L'.getD i false=true:=λi h=>by grind
 have af:L'.getD j false=true:=by rw [hL];simp
 have O:∀ i,k<=i->ae7 ops i->L.getD i false=true->(s i).length≠(s j).length:=by
  intro i I H h3 he;have ai:i≠j:=λhh=>by grind
  have hi:i<ops.size:=by obtain ⟨o,ho,_⟩:=H;grind
  rcases Nat.lt_or_gt_of_ne ai with h | h
  ·obtain ⟨b',ag⟩:=hE i H;have:=(aqf hE hN h (by omega) (λi' q1 q2=>ad i' (by omega) q2) ag).2;omega
  ·have:=(aqf hE hN h (by omega) (λi' q1 q2=>ae i I H h3 i' (by omega) q2) hb).2;omega
 by_cases hc:(s j).length<M.length
 ·refine Or.inr ⟨?_,⟨by grind,λp Z=>?_,λi b' I H h3 h4=>?_,λp I H=>?_,?_⟩⟩
  ·rcases P.hol _ ah hc with h | ⟨i,I,H,h3,h4⟩;all_goals grind
  ·rw [Aq (by omega)];exact P.pre p Z
  ·by_cases aa:i=j
   ·simp_all
   ·have J:L.getD i false=true:=by grind
    rw [Aq (λh=>O i I H J h.symm)];exact P.fil i b' I H J h4
  ·by_cases Z:p=(s j).length
   ·all_goals grind
   ·rw [Aq (by omega)];rcases P.hol p I (by simpa using H) with h | ⟨i,q1,q2,q3,q4⟩;all_goals grind
  ·rcases P.top with h | ⟨i,q1,q2,q3,q4⟩;all_goals grind
 ·refine Or.inl ⟨(s j).length-M.length,by simp;omega,⟨?_,λp Z=>?_,λi b' I H h3 h4=>?_,λp I H=>?_,Or.inr ⟨j,ab,hx,af,by simp;omega⟩⟩⟩
  ·grind
  ·have:=P.len;rw [Ar,Ax (by omega)];exact P.pre p Z
  ·by_cases aa:i=j
   ·subst aa;rw [hb] at h4;have:b=b':=by simpa using h4
    rw [A3 (by simp;omega)];simp_all
   ·have J:L.getD i false=true:=by grind
    have e:=P.fil i b' I H J h4;grind
  ·by_cases Z:p<M.length
   ·rw [Ar,Ax Z];rcases P.hol p I Z with h | ⟨i,q1,q2,q3,q4⟩;all_goals grind
   ·by_cases al:p<(s j).length
    ·refine Or.inl ?_;rw [Ar,A3 (by omega),Ax (by simp;omega)];rw [List.getElem?_replicate,if_pos (by omega)]
    grind
end
theorem bac {C:Cfg} (hP:C.P=Γ.P) (hn:Γ.n=C.n) {ops:Array Oper}{i:Nat}{o:Oper} (ho:ops[i]?=some o) {e eF:Env}{k:Nat}{v:SV}{b:BX} (hg:o.guard=none) (I:extV C.P o.op (opd e []) k=some (v,b)) (hd:aln C.n o.dst=true)
 (ab:∀ t,e t=.undef\/e t=eF t) {σ aa:List BX}{a:Act}{w:World} (Z:Rel Γ eF σ a w) (ae:apd Γ.np σ k b aa) (hc:∀ d,o.dst=some d->awz eF d)
 (next:Act->World->Prop) (Q:Exit->Act->World->Prop) (M:(∀ u H x,v≠.gd u H x)->∀ a' w',Rel Γ (put eF o.dst v) aa a' w'->next a' w'):wpOp Γ.P ops Q i next a w:=by
 obtain ⟨D,ow,μ,hw,hs⟩:=Z
 have ad:Slots Γ D ow μ e σ a w:=⟨hs.size,hs.defers,λt=>by
  rcases ab t with h | h
  ·rw [h];exact .undef
  ·rw [h];exact hs.slot t⟩
 unfold wpOp
 simp only [ho]
 have ah:∀ x,SRep Γ.P D w ow μ σ (opd e [] x) (a.eval x):=λx=>abn ad [] (λ_ hx=>by cases hx) x
 have ag:Region.wanted o (yielded ops a.tmps)=true:=by simp [Region.wanted,hg]
 simp only [ag,A9]
 refine Or.inl ?_
 unfold Oper.wp
 rw [hP] at I
 have J:=azy hw ah o I ae
 have O:∀ t H x,v≠.gd t H x:=by intro t H x hv;obtain ⟨u,w',D',ai,aj,_,_,_,af⟩:=J;subst hv;cases af
 exact aqv hn hs hd hc J v (λ_ _ _ _ _ h=>h.slot) (λt H x hv=>absurd hv (O t H x)) next Q (M O)
theorem a1s {H:Env}{O:List BX}{a:Act}{w:World} (n:Nat) (h:Rel Γ H O a w):Rel Γ H (O++List.replicate n .hole) a w:=by
 obtain ⟨D,ow,μ,hw,I⟩:=h;obtain ⟨Z,J⟩:=WRel.pushHoles n hw;refine ⟨D,ow,μ,Z,⟨I.size,I.defers,λt=>?_⟩⟩;have:=I.slot t;revert this;cases H t with
 | gd u M x=>exact λo=>⟨λq=>J (o.1 q),o.2⟩
 | _=>exact λo=>J o
structure DInv (Γ:Ctx) (ops:Array Oper) (N n0:Nat) (v:Nat->SV) (s:Nat->List BX) (e:Env) (L:Array Bool) (a:Act) (w:World):Prop where
 size:L.size=ops.size
 down:Down ops L
 gd:∀ t u want x,envL ops v e L t=.gd u want x->∃ g o,L.getD g false=true/\ops[g]?=some o/\o.dst=some u
 lt:∀ i,L.getD i false=true->i<N
 k:∃ k σ,k<=N/\(∀ i,i<k->ape ops i->L.getD i false=true)/\(∀ i,k<=i->NUpd ops i->L.getD i false=false)/\n0<=(s k).length/\Part ops s L k σ/\Rel Γ (envL ops v e L) σ a w
theorem ayk {R:Type}{C:Cfg} (hC:aak C) (hP:C.P=Γ.P) (hn:Γ.n=C.n) {ops:Array Oper} (hd:arl Γ.P ops=true) {e:Env}{st:List BX}{K:Env->List BX->Option R}{X:SV->List BX->Option R}{r:R} (h:runD C (mkDI ops) ops st.length ops.toList 0 e st [] K X=some r)
 (ck:∀ t u O x,e t≠.gd u O x) {Q:Exit->Act->World->Prop} (hK:∀ e' st' a' w',K e' st'=some r->Rel Γ e' st' a' w'->Q .normal a' w') (hX:∀ s st' v a' w',X s st'=some r->PRel Γ s st' v a' w'->Q (.panic [{ v,recovered:=false }]) a' w') (a:Act) (w:World) (bk:Rel Γ e st a w):
 wpAny Γ.P .any ops Q ops.size (Array.replicate ops.size false) a w:=by
 simp only [arl,Aj] at hd
 obtain ⟨⟨_,aH⟩,bv⟩:=hd
 have bv:=asb bv
 have aH:=arn aH
 obtain ⟨N,v,s0,E,LK,bN,bV,bD,aS,aP,hk⟩:=ayl hC ops.toList 0 e st [] h
 have aU:ops.toList.length=ops.size:=by simp
 rw [aU] at aS
 simp only [Nat.zero_add,aU] at aP hk
 obtain ⟨s,aX,cu,cv⟩:∃ s:Nat->List BX,(∀ i,i<=N->s i=s0 i)/\(∀ i,N<=i->ae7 ops i->s (i+1)=s i++[.hole])/\(∀ i,N<=i->¬ae7 ops i->s (i+1)=s i):=by
  refine ⟨λi=>if i<=N then s0 i else s0 N++((List.range (i-N)).filter λd=>(ops[N+d]?).any λo=>ac2 o.op).map λ_=>.hole,λi hi=>by simp [hi],λi hi ⟨o,ho,hx⟩=>?_,λi hi hx=>?_⟩
  ·simp only [show ¬(i+1<=N) by omega,A8,show i+1-N=(i-N)+1 by omega,List.range_succ,List.filter_append,List.map_append];have e1:(ops[N+(i-N)]?).any (λo=>ac2 o.op)=true:=by rw [show N+(i-N)=i by omega,ho];simp [hx]
   simp only [List.filter_cons,e1,A9,List.filter_nil,Bh,List.map_nil];by_cases ag:i<=N
   ·have:i=N:=by omega
    subst this;simp
   ·simp only [ag,A8,Ar]
  ·simp only [show ¬(i+1<=N) by omega,A8,show i+1-N=(i-N)+1 by omega,List.range_succ,List.filter_append,List.map_append];have e1:(ops[N+(i-N)]?).any (λo=>ac2 o.op)=false:=by
    rw [show N+(i-N)=i by omega];cases ho:ops[i]? with
    | none=>rfl
    | some o=>
         cases hb:ac2 o.op with
         | true=>exact absurd ⟨o,ho,hb⟩ hx
         | false=>simp [hb]
   simp only [List.filter_cons,e1,List.filter_nil,List.map_nil,List.append_nil,A6,A8];by_cases ag:i<=N
   ·have:i=N:=by omega
    subst this;simp
   ·simp only [ag,A8]
 have aW:s 0=st:=(aX 0 (by omega)).trans bN
 have ab:∀ j o,j<N->ops[j]?=some o->DStep C (mkDI ops) ops st.length j o (E j) (s j) (v j) (s (j+1)) (LK j) (LK (j+1))/\E (j+1)=put (E j) o.dst (v j):=by intro j o hj ho;have:=aP j o hj (by simpa using ho);rw [aX j (by omega),aX (j+1) (by omega)];simpa using this
 have bX:∀ p i j,i<=j->j<=N->p∈LK i->p∈LK j:=by
  intro p i j ae;induction j with
  | zero=>
   intro _ hp;have:i=0:=by omega
   subst this;exact hp
  | succ j ih=>
   intro hj hp;by_cases he:i=j+1
   ·subst he;exact hp
   ·have ho:ops[j]?=some ops[j]:=Array.getElem?_eq_getElem (by omega);exact (ab j _ (by omega) ho).1.sub p (ih (by omega) (by omega) hp)
 have bE:∀ j,j<=N->∀ p,p∈LK j->p.u=true->∃ q o,q<j/\ops[q]?=some o/\p.j=q/\(mkDI ops).upd q o=true/\p.f=λk=>ai1 C o ((mkDI ops).mask q (E q)) (s q) k:=by
  intro j;induction j with
  | zero=>intro _ p hp;rw [bD] at hp;cases hp
  | succ j ih=>
   intro hj p hp hu;have ho:ops[j]?=some ops[j]:=Array.getElem?_eq_getElem (by omega);rcases (ab j _ (by omega) ho).1.log p hp hu with h | ⟨J,Z,H⟩
   ·obtain ⟨q,o,q1,q2⟩:=ih (by omega) p h hu;exact ⟨q,o,by omega,q2⟩
   ·exact ⟨j,_,by omega,ho,J,Z,H⟩
 have a7:∀ j o t,ops[j]?=some o->o.dst=some t->aco t ops.toList 0=some j:=by intro j o t ho aA;have:=a2y (k:=0) bv (by simpa using ho) aA;simpa using this
 have aC:∀ t i,aco t ops.toList 0=some i->∃ o,ops[i]?=some o/\o.dst=some t:=by intro t i hw;obtain ⟨_,o,J,Z⟩:=avg hw;exact ⟨o,by simpa using J,Z⟩
 have hE:∀ j,j<=N->∀ t,E j t=match aco t ops.toList 0 with | some i=>if i<j then v i else e t | none=>e t:=by
  intro j;induction j with
  | zero=>intro _ t;rw [bV];split<;>simp
  | succ j ih=>
   intro hj t;have ho:ops[j]?=some ops[j]:=Array.getElem?_eq_getElem (by omega);rw [(ab j _ (by omega) ho).2];have ih:=ih (by omega) t;cases aA:ops[j].dst with
   | none=>
    simp only [put,ih];cases hw:aco t ops.toList 0 with
    | none=>rfl
    | some i=>
     simp only;obtain ⟨o,J,Z⟩:=aC t i hw;have:i≠j:=λhh=>by subst hh;rw [ho] at J;cases J;rw [aA] at Z;cases Z
     by_cases ae:i<j
     ·rw [if_pos ae,if_pos (by omega)]
     ·rw [if_neg ae,if_neg (by omega)]
   | some d=>
    simp only [put,Env.set];cases hb:Nat.beq t d with
    | true=>have:=Ae hb;subst this;rw [a7 j _ t ho aA];simp
    | false=>
     simp only [Ah,ih];cases hw:aco t ops.toList 0 with
     | none=>rfl
     | some i=>
      simp only;obtain ⟨o,J,Z⟩:=aC t i hw;have:i≠j:=λhh=>by subst hh;rw [ho] at J;cases J;rw [aA] at Z;cases Z;rw [Bi] at hb;cases hb
      by_cases ae:i<j
      ·rw [if_pos ae,if_pos (by omega)]
      ·rw [if_neg ae,if_neg (by omega)]
 have aQ:∀ i,ae7 ops i->∃ b,s (i+1)=s i++[b]:=by
  intro i hx;by_cases hi:i<N
  ·obtain ⟨o,ho,hx⟩:=hx;obtain ⟨_,_,_,_,a6⟩:=(ab i o hi ho).1.upd (apt hx);obtain ⟨_,b,J,_⟩:=aps hx a6;exact ⟨b,J⟩
  ·exact ⟨_,cu i (by omega) hx⟩
 have aF:∀ i,i<ops.size->¬ape ops i->s (i+1)=s i:=by
  intro i hi au;have ho:ops[i]?=some ops[i]:=Array.getElem?_eq_getElem hi;by_cases cb:i<N
  ·refine ((ab i _ cb ho).1.non ?_).1;cases hb:(mkDI ops).upd i ops[i] with
   | false=>rfl
   | true=>exact absurd ⟨_,ho,hb⟩ au
  ·exact cv i (by omega) (λ⟨o,J,Z⟩=>au ⟨o,J,apt Z⟩)
 have cl:Γ.np<=st.length:=by obtain ⟨_,_,_,hw,_⟩:=bk;exact hw.np
 have bx:∀ p q,p<=q->q<=ops.size->(∀ i,p<=i->i<q->¬ape ops i)->s p=s q:=by
  intro p q cp;induction q with
  | zero=>
   intro _ _;have:p=0:=by omega
   subst this;rfl
  | succ q ih=>
   intro hq au;by_cases he:p=q+1
   ·subst he;rfl
   ·have ho:ops[q]?=some ops[q]:=Array.getElem?_eq_getElem (by omega);have hu:(mkDI ops).upd q ops[q]=false:=by
     cases hb:(mkDI ops).upd q ops[q] with
     | false=>rfl
     | true=>exact absurd ⟨_,ho,hb⟩ (au q (by omega) (by omega))
    rw [ih (by omega) (by omega) (λi J Z=>au i J (by omega)),aF q (by omega) (au q (by omega) (by omega))]
 have aY:∀ p q,p<=q->q<=N->(∀ i o,p<=i->i<q->ops[i]?=some o->(mkDI ops).upd i o=true->ac2 o.op=true\/(mkDI ops).soft o=true)->(s p).take st.length=(s q).take st.length:=by
  intro p q cp;induction q with
  | zero=>
   intro _ _;have:p=0:=by omega
   subst this;rfl
  | succ q ih=>
   intro hq au;by_cases he:p=q+1
   ·subst he;rfl
   ·have ho:ops[q]?=some ops[q]:=Array.getElem?_eq_getElem (by omega);rw [ih (by omega) (by omega) (λi o J Z=>au i o J (by omega))];cases hu:(mkDI ops).upd q ops[q] with
    | false=>rw [((ab q _ (by omega) ho).1.non hu).1]
    | true=>
     have hx:=au q _ (by omega) (by omega) ho hu;obtain ⟨_,Z,_,h4,H⟩:=(ab q _ (by omega) ho).1.upd hu;rcases hx with hx | hx
     ·exact (av0 hx H Z).symm
     ·exact (asu (h4 hx) H).symm
 have bc:∀ L a w,DInv Γ ops N st.length v s e L a w->(∀ i,i<ops.size->L.getD i false=true)->Q .normal a w:=by
  intro L a w hi aq;have bo:N=ops.size:=by
   rcases Nat.lt_or_ge N ops.size with h | h
   ·have:=hi.lt N (aq N h);omega
   ·omega
  have hk:K (E ops.size) (s ops.size)=some r:=by
   rcases hk with ⟨_,hk⟩ | ⟨o,_,_,ho,_⟩
   ·rw [<-bo,aX N (Nat.le_refl _)];exact hk
   ·have:=(Bg.1 ho).1;rw [aU] at this;omega
  obtain ⟨k,σ,aJ,aK,an,a2,aj,hr⟩:=hi.k;have e1:σ=s ops.size:=afx aQ aF aj (by omega) (Nat.le_refl _) (λi J Z hu=>by
   have:=an i J hu;rw [aq i Z] at this;cases this) (λi _ Z _=>aq i Z) (λi J ⟨o,ho,_⟩=>by
   have:=(Array.getElem?_eq_some_iff.1 ho).1;omega)
  have e2:envL ops v e L=E ops.size:=by
   funext t;rw [hE _ (by omega)];unfold envL;cases hw:aco t ops.toList 0 with
   | none=>rfl
   | some i=>obtain ⟨o,J,_⟩:=aC t i hw;have ah:i<ops.size:=(Array.getElem?_eq_some_iff.1 J).1;simp only [aq i ah,if_pos ah,A9]
  rw [e1,e2] at hr;exact hK _ _ _ _ hk hr
 have a4:∀ L,L.size=ops.size->Region.ready .any ops L=[]->∀ i,i<ops.size->L.getD i false=true:=by
  intro L cJ hr i;induction i using Nat.strongRecOn with
  | _ i ih=>
   intro hi;cases hb:L.getD i false with
   | true=>rfl
   | false=>
    have ho:ops[i]?=some ops[i]:=Array.getElem?_eq_getElem hi;have hm:i∈Region.ready .any ops L:=mem_ready.2 ⟨by
     have ah:i<L.size:=by omega
     simpa [ah] using hb,_,ho,λx hx b4=>by
     have ah:=aH i _ (by simpa using ho) x hx b4;exact ih x.on (by omega) (by omega)⟩
    rw [hr] at hm;cases hm
 have bR:∀ ap L a w,DInv Γ ops N st.length v s e L a w->unl ops.size L<=ap->wpAny Γ.P .any ops Q ap L a w:=by
  intro ap;induction ap with
  | zero=>
   intro L a w hi hu;have aq:∀ i,i<ops.size->L.getD i false=true:=by
    intro i ah;cases hb:L.getD i false with
    | true=>rfl
    | false=>have:i∈(List.range ops.size).filter λi=>!L.getD i false:=List.mem_filter.2 ⟨List.mem_range.2 ah,by rw [hb];rfl⟩;have:=List.length_pos_of_mem this;unfold unl at hu;omega
   refine ⟨?_,bc L a w hi aq⟩;cases hr:Region.ready .any ops L with
   | nil=>rfl
   | cons i r=>
    have hm:i∈Region.ready .any ops L:=by rw [hr];simp
    obtain ⟨J,o,ho,_⟩:=mem_ready.1 hm;have ah:i<ops.size:=(Array.getElem?_eq_some_iff.1 ho).1;have:=aq i ah;have aB:i<L.size:=by rw [hi.size];exact ah
    simp [aB] at this J;rw [this] at J;cases J
  | succ ap ih=>
   intro L a w hi hu;refine ⟨λhr=>bc L a w hi (a4 L hi.size hr),λj hj=>?_⟩;obtain ⟨cc,o,ho,bj⟩:=mem_ready.1 hj;have ah:j<ops.size:=(Array.getElem?_eq_some_iff.1 ho).1;have ad:j<L.size:=by rw [hi.size];exact ah
   have aR:L.getD j false=false:=by simpa [ad] using cc
   have bA:∀ i,Anc ops i j->L.getD i false=true:=λi ha=>azb hi.down ha (λo' av x hx hb=>by rw [ho] at av;cases av;exact bj x hx hb);have b5:∀ i,Anc ops j i->L.getD i false=false:=λi ha=>by
    cases hb:L.getD i false with
    | false=>rfl
    | true=>have:=azb hi.down ha (hi.down i hb);rw [aR] at this;cases this
   have ax:∀ i,(mkDI ops).cmp i j=true->i≠j->(i<j/\L.getD i false=true)\/(j<i/\L.getD i false=false):=by
    intro i hc M;unfold DI.cmp at hc;cases hb:Nat.beq i j with
    | true=>exact absurd (Ae hb) M
    | false=>
     rw [hb] at hc;simp only [Ah] at hc;cases a0:Nat.blt i j with
     | true=>rw [a0] at hc;obtain ⟨J,Z⟩:=ar8 hc;exact Or.inl ⟨J,bA i Z⟩
     | false=>rw [a0] at hc;obtain ⟨J,Z⟩:=ar8 hc;exact Or.inr ⟨J,b5 i Z⟩
   obtain ⟨k,σ,aJ,aK,an,a2,aj,hr⟩:=hi.k;have cd:j<=N:=by
    rcases Nat.lt_or_ge N j with h | h
    ·rcases hk with ⟨bo,_⟩ | ⟨o',sp,st',av,hp,_⟩
     ·omega
     ·have J:=aec hp.last j o (by simpa [mkDI] using ho);simp only [Nat.zero_add,Bd] at J;rcases J with J | J
      ·have:=Au J;omega
      ·have:=hi.lt N (bA N (ar8 J).2);omega
    ·exact h
   have bW:∀ t i,aco t ops.toList 0=some i->i≠j->(mkDI ops).cmp i j=true->E j t=envL ops v e L t:=by
    intro t i hw M hc;rw [hE j cd];unfold envL;simp only [hw];rcases ax i hc M with ⟨J,Z⟩ | ⟨J,Z⟩
    ·rw [if_pos J,if_pos Z]
    ·rw [if_neg (by omega),if_neg (by rw [Z];decide)]
   have ag:∀ t,(mkDI ops).mask j (E j) t=.undef\/(mkDI ops).mask j (E j) t=envL ops v e L t:=by
    intro t;unfold DI.mask;show (match aco t ops.toList 0 with | some i=>(bif (mkDI ops).cmp i j then E j t else .undef) | none=>E j t)=_\/(match aco t ops.toList 0 with | some i=>(bif (mkDI ops).cmp i j then E j t else .undef) | none=>E j t)=_;cases hw:aco t ops.toList 0 with
    | none=>refine Or.inr ?_;simp only;rw [hE j (by omega)];unfold envL;simp only [hw]
    | some i=>
     simp only;cases hc:(mkDI ops).cmp i j with
     | false=>exact Or.inl rfl
     | true=>
      refine Or.inr ?_;simp only [Af];by_cases M:i=j
      ·subst M;rw [hE i (by omega)];unfold envL;simp only [hw];rw [if_neg (by omega),if_neg (by rw [aR];decide)]
      ·exact bW t i hw M hc
   have ak:(mkDI ops).isA j=true->∀ i,ape ops i->i≠j->(i<j/\L.getD i false=true)\/(j<i/\L.getD i false=false):=by intro hA i ⟨oi,af,aa⟩ M;have:=aec hA i oi (by simpa [mkDI] using af);simp only [Nat.zero_add,aa,Az,Bool.false_or] at this;exact ax i this M
   have bY:(mkDI ops).isN j=true->∀ i,NUpd ops i->i≠j->(i<j/\L.getD i false=true)\/(j<i/\L.getD i false=false):=by intro hA i ⟨oi,af,aa,a8⟩ M;have:=aec hA i oi (by simpa [mkDI] using af);simp only [Nat.zero_add,aa,a8,Ay,Bool.and_self,Az,Bool.false_or] at this;exact ax i this M
   have I:∀ i,ae7 ops i->ape ops i:=λi ⟨o,J,Z⟩=>⟨o,J,apt Z⟩;have ai:∀ i,NUpd ops i->ape ops i:=λi ⟨o,J,Z,_⟩=>⟨o,J,Z⟩;have bL:∀ i,k<=i->ae7 ops i->L.getD i false=true->∀ i',k<=i'->i'<i->¬NUpd ops i':=by
    intro i J ⟨oi,af,a8⟩ H i' h4 h5 al;obtain ⟨hA,_⟩:=(ab i oi (hi.lt i H) af).1.upd (apt a8);rw [a8] at hA;obtain ⟨bS,bh,bl,bm⟩:=al;have:=aec hA i' bS (by simpa [mkDI] using bh);simp only [Nat.zero_add,bl,bm,Ay,Bool.and_self,Az,Bool.false_or] at this;unfold DI.cmp at this;cases hb:Nat.beq i' i with
    | true=>have:=Ae hb;omega
    | false=>
     rw [hb] at this;simp only [Ah] at this;have aB:Nat.blt i' i=true:=by show Nat.ble (i'+1) i=true;rw [Nat.ble_eq];omega
     rw [aB] at this;simp only [Af] at this;obtain ⟨_,bF⟩:=ar8 this;have h6:=azb hi.down bF (hi.down i H);have:=an i' h4 ⟨bS,bh,bl,bm⟩;rw [h6] at this;cases this
   rcases Nat.lt_or_ge j N with bJ | cx;case inr=>
    have:j=N:=by omega
    subst this
    rcases hk with ⟨bo,_⟩ | ⟨o',sp,st',av,hp,bZ⟩
    ·omega
    ·have bf:ops[j]?=some o':=by simpa using av
     rw [ho] at bf;cases bf;have hA:=hp.isA;have aO:k<=j:=aJ;have bB:σ=s j:=afx aQ aF aj aO (by omega) (λi J Z al=>by
      rcases ak hA i (ai i al) (by omega) with ⟨_,H⟩ | ⟨H,_⟩
      ·have:=an i J al;rw [this] at H;cases H
      ·omega) (λi J Z he=>by
      rcases ak hA i (I i he) (by omega) with ⟨_,H⟩ | ⟨H,_⟩
      ·exact H
      ·omega) (λi J he=>by
      have M:i≠j:=λhh=>by subst hh;obtain ⟨o',q1,q3⟩:=he;rw [ho] at q1;cases q1;rw [hp.ext] at q3;cases q3
      rcases ak hA i (I i he) M with ⟨H,_⟩ | ⟨_,H⟩
      ·omega
      ·exact H)
     rw [bB] at hr;have a5:=hp.step;rw [<-aX j (Nat.le_refl _)] at a5;exact au6 hP ho a5 ag hr _ Q (λv' a' w' cq=>hX _ _ v' a' w' bZ cq)
   obtain ⟨aG,cz⟩:=ab j o bJ ho;have bO:(L.setIfInBounds j true).size=ops.size:=by simp [hi.size]
   have bI:∀ g O t,o.guard=some (g,O)->(ops[g]?).bind (·.dst)=some t->L.getD g false=true/\∃ og,ops[g]?=some og/\og.dst=some t:=by
    intro g O t hg ht;have:=aG.gd;unfold gdOk at this;rw [hg] at this;obtain ⟨J,Z⟩:=ar8 this;cases a3:ops[g]? with
    | none=>rw [a3] at ht;cases ht
    | some og=>rw [a3] at ht;exact ⟨bA g Z,og,rfl,ht⟩
   have bn:∀ g og t,L.getD g false=true->ops[g]?=some og->og.dst=some t->o.dst≠some t:=by intro g og t hg a3 ht hd;have J:=a7 g og t a3 ht;have Z:=a7 j o t ho hd;rw [J] at Z;cases Z;rw [aR] at hg;cases hg
   have aE:∀ ba k',k'<=N->Part ops s (L.setIfInBounds j true) k' ba->st.length<=(s k').length->(∀ i,i<k'->ape ops i->(L.setIfInBounds j true).getD i false=true)->(∀ i,k'<=i->NUpd ops i->(L.setIfInBounds j true).getD i false=false)->
    (∀ u O x,v j=.gd u O x->∃ g,o.guard=some (g,O)/\(ops[g]?).bind (·.dst)=some u)->∀ a' w',Rel Γ (put (envL ops v e L) o.dst (v j)) ba a' w'->wpAny Γ.P .any ops Q ap (L.setIfInBounds j true) a' w':=by
    intro ba k' ce a5 cj J Z aI a' w' aM
    have bd:put (envL ops v e L) o.dst (v j)=envL ops v e (L.setIfInBounds j true):=by
     funext t;cases hd:o.dst with
     | none=>
      show envL ops v e L t=_;unfold envL;cases hw:aco t ops.toList 0 with
      | none=>rfl
      | some i=>
       simp only;obtain ⟨oi,q1,q2⟩:=aC t i hw;have:i≠j:=λhh=>by subst hh;rw [ho] at q1;cases q1;rw [hd] at q2;cases q2
       rw [abk ad,if_neg this]
     | some d=>
      simp only [put,Env.set];cases hb:Nat.beq t d with
      | true=>have:=Ae hb;subst this;unfold envL;rw [a7 j o t ho hd];simp only [Af];rw [abk ad,if_pos rfl,if_pos rfl]
      | false=>
       simp only [Ah];unfold envL;cases hw:aco t ops.toList 0 with
       | none=>rfl
       | some i=>
        simp only;obtain ⟨oi,q1,q2⟩:=aC t i hw;have:i≠j:=λhh=>by subst hh;rw [ho] at q1;cases q1;rw [hd] at q2;cases q2;rw [Bi] at hb;cases hb
        rw [abk ad,if_neg this]
    refine ih _ _ _ ⟨bO,?_,?_,λi hl=>?_,k',ba,ce,J,Z,cj,a5,by rw [<-bd];exact aM⟩ ?_
    ·intro i hl oi af x hx hb;rw [abk ad] at hl ⊢;by_cases a9:x.on=j
     ·rw [if_pos a9]
     ·rw [if_neg a9];by_cases ae:i=j
      ·subst ae;rw [ho] at af;cases af;exact bj x hx hb
      ·rw [if_neg ae] at hl;exact hi.down i hl oi af x hx hb
    ·intro t u O x hh;rw [<-bd] at hh;have aZ:(∃ g o,L.getD g false=true/\ops[g]?=some o/\o.dst=some u)->∃ g o,(L.setIfInBounds j true).getD g false=true/\ops[g]?=some o/\o.dst=some u:=by
      intro ⟨g,og,q1,q2,q3⟩;refine ⟨g,og,?_,q2,q3⟩;rw [abk ad];split
      ·rfl
      ·exact q1
     cases hd:o.dst with
     | none=>rw [hd] at hh;exact aZ (hi.gd t u O x hh)
     | some d=>
      rw [hd] at hh;simp only [put,Env.set] at hh;cases hb:Nat.beq t d with
      | true=>rw [hb] at hh;obtain ⟨g,q1,q2⟩:=aI u O x hh;obtain ⟨q3,og,q4,q5⟩:=bI g O u q1 q2;exact aZ ⟨g,og,q3,q4,q5⟩
      | false=>rw [hb] at hh;exact aZ (hi.gd t u O x hh)
    ·rw [abk ad] at hl;by_cases ae:i=j
     ·omega
     ·rw [if_neg ae] at hl;exact hi.lt i hl
    ·have cy:unl ops.size (L.setIfInBounds j true)<unl ops.size L:=by
      unfold unl;refine az3 (j:=j) (λi hq=>?_) (by rw [aR];rfl) (by rw [abk ad,if_pos rfl];rfl) (List.mem_range.2 ah);rw [abk ad] at hq;by_cases ae:i=j
      ·rw [if_pos ae] at hq;cases hq
      ·rw [if_neg ae] at hq;exact hq
     omega
   have ay:∀ d,o.dst=some d->awz (envL ops v e L) d:=by intro d hd t u O x hh hu;subst hu;obtain ⟨g,og,q1,q2,q3⟩:=hi.gd t u O x hh;exact bn g og u q1 q2 q3 hd
   have be:∀ g O t,o.guard=some (g,O)->(ops[g]?).bind (·.dst)=some t->o.dst≠some t:=λg O t hg ht=>by obtain ⟨q1,og,q2,q3⟩:=bI g O t hg ht;exact bn g og t q1 q2 q3
   cases hu:(mkDI ops).upd j o with
   | true=>
    obtain ⟨hA,cg,ch,_,a6⟩:=aG.upd hu;have aO:k<=j:=by
     rcases Nat.lt_or_ge j k with aB | b9
     ·have:=aK j aB ⟨o,ho,hu⟩;rw [aR] at this;cases this
     ·exact b9
    cases hx:ac2 o.op with
    | true=>
     rw [hx] at hA;simp only [Af] at hA;obtain ⟨b7,b,cw,aN⟩:=aps hx a6;have au:∀ i,k<=i->i<j->¬NUpd ops i:=λi J Z al=>by
      rcases bY hA i al (by omega) with ⟨_,H⟩ | ⟨H,_⟩
      ·have:=an i J al;rw [this] at H;cases H
      ·omega
     have aw:∀ i,(L.setIfInBounds j true).getD i false=if i=j then true else L.getD i false:=λi=>abk ad
     have a9:ae7 ops j:=⟨o,ho,hx⟩;have fin:∀ bC bb,Rel Γ (envL ops v e L) bC a w->apd Γ.np bC (s j).length b bb->Part ops s (L.setIfInBounds j true) k bb->wpOp Γ.P ops Q j (λa' w'=>wpAny Γ.P .any ops Q ap (L.setIfInBounds j true) a' w') a w:=by
      intro bC bb ct co aV;refine bac hP hn ho b7 aN aG.dst ag ct co ay _ Q (λaI a' w' aM=>aE bb k aJ aV a2 (λi ae aa=>?_) (λi ae aa=>?_) (λu O x hv=>absurd hv (aI u O x)) a' w' aM)
      ·rw [aw];split
       ·rfl
       ·exact aK i ae aa
      ·rw [aw];by_cases M:i=j
       ·subst M;obtain ⟨o',q1,_,q3⟩:=aa;rw [ho] at q1;cases q1;rw [hx] at q3;cases q3
       ·rw [if_neg M];exact an i ae aa
     rcases a1j aQ aF aj aO ah au bL a9 cw aR aw with ⟨n,bu,aV⟩ | ⟨bu,aV⟩
     ·exact fin _ _ (a1s n hr) (Or.inl ⟨bu,rfl⟩) aV
     ·exact fin _ _ hr (Or.inr ⟨bu,rfl,Nat.le_trans cl cg⟩) aV
    | false=>
     rw [hx] at hA;simp only [Ah] at hA;have bB:σ=s j:=afx aQ aF aj aO (by omega) (λi J Z al=>by
      rcases ak hA i (ai i al) (by omega) with ⟨_,H⟩ | ⟨H,_⟩
      ·have:=an i J al;rw [this] at H;cases H
      ·omega) (λi J Z he=>by
      rcases ak hA i (I i he) (by omega) with ⟨_,H⟩ | ⟨H,_⟩
      ·exact H
      ·omega) (λi J he=>by
      have M:i≠j:=λhh=>by subst hh;obtain ⟨o',q1,q3⟩:=he;rw [ho] at q1;cases q1;rw [hx] at q3;cases q3
      rcases ak hA i (I i he) M with ⟨H,_⟩ | ⟨_,H⟩
      ·omega
      ·exact H)
     rw [bB] at hr;refine ao6 hP hn ho a6 aG.dst ag hr ay be _ Q (λaI a' w' aM=>aE (s (j+1)) (j+1) (by omega) ⟨Nat.le_refl _,λ_ _=>rfl,λi b J Z H _=>?_,λp J Z=>by omega,Or.inl rfl⟩ ch (λi ae aa=>?_) (λi ae aa=>?_) aI a' w' aM)
     ·rw [abk ad,if_neg (by omega)] at H;rcases ak hA i (I i Z) (by omega) with ⟨h4,_⟩ | ⟨_,h4⟩
      ·omega
      ·rw [h4] at H;cases H
     ·rw [abk ad];by_cases M:i=j
      ·rw [if_pos M]
      ·rw [if_neg M];rcases ak hA i aa M with ⟨_,H⟩ | ⟨H,_⟩
       ·exact H
       ·omega
     ·rw [abk ad,if_neg (by omega)];exact an i (by omega) aa
   | false=>
    have aL:¬ape ops j:=λ⟨o',av,bP⟩=>by rw [ho] at av;cases av;rw [hu] at bP;cases bP
    have bT:(mkDI ops).isA j=true->σ=s j:=by
     intro hA;rcases Nat.le_total k j with ag | ag
     ·exact afx aQ aF aj ag (by omega) (λi J Z al=>by
       rcases ak hA i (ai i al) (by omega) with ⟨_,H⟩ | ⟨H,_⟩
       ·have:=an i J al;rw [this] at H;cases H
       ·omega) (λi J Z he=>by
       rcases ak hA i (I i he) (by omega) with ⟨_,H⟩ | ⟨H,_⟩
       ·exact H
       ·omega) (λi J he=>by
       have M:i≠j:=λhh=>by subst hh;exact aL (I i he)
       rcases ak hA i (I i he) M with ⟨H,_⟩ | ⟨_,H⟩
       ·omega
       ·exact H)
     ·have e1:σ=s k:=afx aQ aF aj (Nat.le_refl _) (Nat.le_trans aJ aS) (λi J Z=>by omega) (λi J Z=>by omega) (λi J he=>by
       have M:i≠j:=λhh=>by subst hh;exact aL (I i he)
       rcases ak hA i (I i he) M with ⟨H,_⟩ | ⟨_,H⟩
       ·omega
       ·exact H)
      rw [e1];refine (bx j k ag (Nat.le_trans aJ aS) (λi J Z aa=>?_)).symm;have M:i≠j:=λhh=>by subst hh;exact aL aa
      rcases ak hA i aa M with ⟨H,_⟩ | ⟨_,H⟩
      ·omega
      ·have:=aK i Z aa;rw [this] at H;cases H
    have bU:(mkDI ops).isA j=false->σ.take (bif (mkDI ops).isB j then st.length else 0)=(s j).take (bif (mkDI ops).isB j then st.length else 0):=by
     intro _;cases hB:(mkDI ops).isB j with
     | false=>simp
     | true=>
      simp only [Af];have e0:σ.take st.length=(s k).take st.length:=by
       apply List.ext_getElem?;intro i;by_cases h:i<st.length
       ·rw [List.getElem?_take_of_lt h,List.getElem?_take_of_lt h];exact aj.pre i (by omega)
       ·rw [Bb (by simp;omega),Bb (by simp;omega)]
      rw [e0];have aN:∀ i oi,ops[i]?=some oi->(mkDI ops).upd i oi=true->i≠j->(ac2 oi.op||(mkDI ops).soft oi)=false->(i<j/\L.getD i false=true)\/(j<i/\L.getD i false=false):=by intro i oi af aa M hx;have:=aec hB i oi (by simpa [mkDI] using af);simp only [Nat.zero_add,aa,hx,Ay,Bool.and_self,Az,Bool.false_or] at this;exact ax i this M
      rcases Nat.le_total k j with ag | ag
      ·refine aY k j ag (by omega) (λi oi J Z af aa=>?_);cases hx:(ac2 oi.op||(mkDI ops).soft oi) with
       | true=>simpa [Bd] using hx
       | false=>
        rcases aN i oi af aa (by omega) hx with ⟨_,H⟩ | ⟨H,_⟩
        ·simp only [Bool.or_eq_false_iff] at hx;have:=an i J ⟨oi,af,aa,hx.1⟩;rw [this] at H;cases H
        ·omega
      ·refine (aY j k ag aJ (λi oi J Z af aa=>?_)).symm;have M:i≠j:=λhh=>by subst hh;exact aL ⟨oi,af,aa⟩
       cases hx:(ac2 oi.op||(mkDI ops).soft oi) with
       | true=>simpa [Bd] using hx
       | false=>
        rcases aN i oi af aa M hx with ⟨H,_⟩ | ⟨_,H⟩
        ·omega
        ·have:=aK i Z ⟨oi,af,aa⟩;rw [this] at H;cases H
    have aw:∀ i,(L.setIfInBounds j true).getD i false=if i=j then true else L.getD i false:=λi=>abk ad
    have bw:∀ i,ae7 ops i->i≠j:=λi he hh=>by subst hh;exact aL (I i he)
    have bM:Part ops s (L.setIfInBounds j true) k σ:=by
     refine ⟨aj.len,aj.pre,λi b J Z H h4=>?_,λp J Z=>?_,?_⟩
     ·rw [aw,if_neg (bw i Z)] at H;exact aj.fil i b J Z H h4
     ·rcases aj.hol p J Z with h | ⟨i,q1,q2,q3,q4⟩
      ·exact Or.inl h
      ·exact Or.inr ⟨i,q1,q2,by rw [aw,if_neg (bw i q2)];exact q3,q4⟩
     ·rcases aj.top with h | ⟨i,q1,q2,q3,q4⟩
      ·exact Or.inl h
      ·exact Or.inr ⟨i,q1,q2,by rw [aw,if_neg (bw i q2)];exact q3,q4⟩
    have bz:StepV C ops o ((mkDI ops).mask j (E j)) σ (v j) σ:=by
     cases bt:lmOf (mkDI ops) st.length j o ((mkDI ops).mask j (E j)) (LK j) with
     | none=>exact (aG.non hu).2 σ bT bU bt
     | some p=>
      obtain ⟨ca,⟨cG,cm⟩,az,cf,cn,cF,cr,bG⟩:=ar5 bt;obtain ⟨br,bK⟩:=aG.lm p hu bt;have cA:st.length<=(s k).length:=a2;have e0:σ[p.k]?=(s k)[p.k]?:=aj.pre p.k (by omega);have bi:∀ i oi,i<N->ops[i]?=some oi->(mkDI ops).upd i oi=true->(ac2 oi.op||(mkDI ops).soft oi)=true->rdAc C.P p (s (i+1))=rdAc C.P p (s i):=by
       intro i oi hi af aa hx;obtain ⟨_,Z,_,h4,H⟩:=(ab i oi hi af).1.upd aa;have ht:(s (i+1)).take st.length=(s i).take st.length:=by
        cases hb:ac2 oi.op with
        | true=>exact av0 hb H Z
        | false=>rw [hb] at hx;exact asu (h4 hx) H
       have e1:(s (i+1))[p.k]?=(s i)[p.k]?:=by have:=congrArg (λl=>l[p.k]?) ht;simpa [List.getElem?_take_of_lt cf] using this
       exact ajx az e1
      have bQ:rdAc C.P p (s k)=.val true (v j):=by
       rcases Nat.le_total k j with aT | aT
       ·have:∀ q,k<=q->q<=j->rdAc C.P p (s k)=rdAc C.P p (s q):=by
         intro q cE;induction q with
         | zero=>
          intro _;have:k=0:=by omega
          subst this;rfl
         | succ q aD=>
          intro hq;by_cases he:k=q+1
          ·subst he;rfl
          ·rw [aD (by omega) (by omega)];have ao:ops[q]?=some ops[q]:=Array.getElem?_eq_getElem (by omega);cases am:(mkDI ops).upd q ops[q] with
           | false=>rw [((ab q _ (by omega) ao).1.non am).1]
           | true=>
            have ar:=aec bG q ops[q] (by simpa [mkDI] using ao);simp only [Nat.zero_add,am,Az,Bool.false_or,Bd] at ar;cases hb:ac2 ops[q].op with
            | true=>exact (bi q _ (by omega) ao am (by rw [hb];rfl)).symm
            | false=>
             rcases ar with (ar | ar) | ar
             ·have:=Au ar;omega
             ·rcases ax q ar (by omega) with ⟨_,H⟩ | ⟨H,_⟩
              ·have:=an q (by omega) ⟨_,ao,am,hb⟩;rw [this] at H;cases H
              ·omega
             ·obtain ⟨g,b8,a1⟩:=List.any_eq_true.1 ar;simp only [Aj] at a1;obtain ⟨q',o',_,av,cC,_,b6⟩:=bE j (by omega) g b8 a1.1.1;have cH:=Ae a1.1.2;have:q'=q:=by omega
              subst this;rw [ao] at av;cases av;have bg:=a1.2;rw [b6] at bg;obtain ⟨_,Z,_,_,h5⟩:=(ab q' _ (by omega) ao).1.upd am;exact (ajx az (ajt (k:=p.k) (by omega) h5 bg)).symm
        rw [this j aT (Nat.le_refl _)];exact br
       ·have:∀ q,j<=q->q<=k->rdAc C.P p (s q)=.val true (v j):=by
         intro q cD;induction q with
         | zero=>
          intro _;have:j=0:=by omega
          subst this;exact br
         | succ q aD=>
          intro hq;by_cases he:j=q+1
          ·subst he;exact br
          ·have aD:=aD (by omega) (by omega);have ao:ops[q]?=some ops[q]:=Array.getElem?_eq_getElem (by omega);cases am:(mkDI ops).upd q ops[q] with
           | false=>rw [((ab q _ (by omega) ao).1.non am).1];exact aD
           | true=>
            have M:q≠j:=λhh=>by subst hh;exact aL ⟨_,ao,am⟩
            have ci:({ p with v:=v j }:LM)∈LK q:=bX _ (j+1) q (by omega) (by omega) bK;cases ar:(mkDI ops).cmp j q with
            | true=>
             have bH:(mkDI ops).cmp q j=true:=by
                 revert ar;unfold DI.cmp;have b0:Nat.beq j q=false:=by rw [<-Bool.not_eq_true,Nat.beq_eq];omega
                 have a0:Nat.beq q j=false:=by rw [<-Bool.not_eq_true,Nat.beq_eq];omega
                 have b1:Nat.blt j q=true:=by show Nat.ble (j+1) q=true;rw [Nat.ble_eq];omega
                 have b2:Nat.blt q j=false:=by
                  cases b3:Nat.blt q j with
                  | false=>rfl
                  | true=>have:q+1<=j:=Au b3;omega
                 rw [b0,a0,b1,b2];exact id
             rcases ax q bH M with ⟨H,_⟩ | ⟨_,H⟩
             ·omega
             ·have:=aK q (by omega) ⟨_,ao,am⟩;rw [this] at H;cases H
            | false=>
             have bp:=(ab q _ (by omega) ao).1;rcases bp.ok am _ ci cr (by simpa [cn] using ar) with H | H | H | ⟨H,h4⟩
             ·rw [bi q _ (by omega) ao am H];exact aD
             ·obtain ⟨_,Z,_,_,h5⟩:=bp.upd am;rw [ajx az (ajt (k:=p.k) (by omega) h5 H)];exact aD
             ·exact H
             ·obtain ⟨_,_,_,_,h5⟩:=bp.upd am;rw [atv (p:=p) h4 H h5];exact aD
        exact this k aT (Nat.le_refl _)
      refine .val ca ?_;rw [cm,ajx az e0];exact bQ
    refine ao6 hP hn ho bz aG.dst ag hr ay be _ Q (λaI a' w' aM=>aE σ k aJ bM a2 (λi ae aa=>?_) (λi ae aa=>?_) aI a' w' aM)
    ·rw [abk ad];split
     ·rfl
     ·exact aK i ae aa
    ·rw [abk ad];by_cases M:i=j
     ·subst M;exact absurd (ai i aa) aL
     ·rw [if_neg M];exact an i ae aa
 refine bR _ _ _ _ ⟨by simp,λj hj=>absurd hj (by rw [af3];decide),λt u O x hh=>?_,λi hl=>absurd hl (by rw [af3];decide),0,st,by omega,λi hi=>by omega,λi _ _=>af3 _ _,by rw [aW];exact Nat.le_refl _,⟨by rw [aW];exact Nat.le_refl _,λp _=>by rw [aW],λi b _ _ H _=>absurd H (by rw [af3];decide),λp J Z=>by rw [aW] at J;omega,Or.inl (by rw [aW])⟩,?_⟩ (by unfold unl;exact Nat.le_trans (List.length_filter_le _ _) (by simp))
 ·have:envL ops v e (Array.replicate ops.size false) t=e t:=by
   unfold envL;split
   ·rw [af3,if_neg (by decide)]
   ·rfl
  rw [this] at hh;exact absurd hh (ck t u O x)
 ·have:envL ops v e (Array.replicate ops.size false)=e:=by
   funext t;unfold envL;split
   ·rw [af3,if_neg (by decide)]
   ·rfl
  rw [this];exact bk
end
end Go.Ab
