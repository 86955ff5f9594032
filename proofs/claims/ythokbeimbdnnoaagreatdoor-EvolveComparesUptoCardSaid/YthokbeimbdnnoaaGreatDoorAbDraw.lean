/- One operation of a region, whatever its order. -/
import Derived.Test.YthokbeimbdnnoaaGreatDoorAbExec
set_option linter.unusedVariables false
set_option linter.unusedSimpArgs false
set_option linter.unnecessarySimpa false
namespace Go.Ab
open Go
def ρT (e:Env) (h:List (Nat×Bool)) (o:Op) (w:Bool):Operand->SV:=match o with | .pick (.tmp u) _ _=>opd e ((u,w)::h) | _=>opd e []
inductive StepV (C:Cfg) (ops:Array Oper) (o:Oper) (e:Env) (st:List BX):SV->List BX->Prop
 | val {v:SV}:o.guard=none->ac C.P o.op (opd e []) (ρT e [] o.op true) (ρT e [] o.op false) st=.val true v->StepV C ops o e st v st
 | upd {v:SV}{st':List BX}:o.guard=none->ac C.P o.op (opd e []) (ρT e [] o.op true) (ρT e [] o.op false) st=.upd true v st'->StepV C ops o e st v st'
 | call {f:FuncId}{args as rs rs':List SV}{sub sub' bs:List BX}:o.guard=none->ac C.P o.op (opd e []) (ρT e [] o.op true) (ρT e [] o.op false) st=.call f args->
  renL st (ab9 (aaq st args)) (λ_=>0) args=some as->agk st (ab9 (aaq st args)) (λ_=>0) (aaq st args)=some sub->Meets C.P f as sub rs sub'->aec st (aaq st args) rs sub'=some (rs',bs)->(∀ s,rs'≠[.pan s])->StepV C ops o e st (ac9 rs') (abp (aaq st args) bs st)
 | gval {j t:Nat}{want b c:Bool}{v:SV}:o.guard=some (j,want)->(ops[j]?).bind (·.dst)=some t->gval e 8 t want=some b->
  ac C.P o.op (opd e [(t,want)]) (ρT e [(t,want)] o.op true) (ρT e [(t,want)] o.op false) st=.val c v->imp b c=true->StepV C ops o e st (.gd t want v) st
 | gcall {j t:Nat}{want b:Bool}{f:FuncId}{args as rs':List SV}:o.guard=some (j,want)->(ops[j]?).bind (·.dst)=some t->gval e 8 t want=some b->
  ac C.P o.op (opd e [(t,want)]) (ρT e [(t,want)] o.op true) (ρT e [(t,want)] o.op false) st=.call f args->aaq st args=[]->renL st (ab9 []) (λ_=>0) args=some as->
  (b=true->∃ rs sub',Meets C.P f as [] rs sub'/\afv rs sub'=some rs')->(∀ s,rs'≠[.pan s])->StepV C ops o e st (.gd t want (ac9 rs')) st
 | gcallU {j t:Nat}{want:Bool}{f:FuncId}{args as rs rs':List SV}{sub sub' bs:List BX}:o.guard=some (j,want)->(ops[j]?).bind (·.dst)=some t->gval e 8 t want=some true->
  ac C.P o.op (opd e [(t,want)]) (ρT e [(t,want)] o.op true) (ρT e [(t,want)] o.op false) st=.call f args->
  renL st (ab9 (aaq st args)) (λ_=>0) args=some as->agk st (ab9 (aaq st args)) (λ_=>0) (aaq st args)=some sub->Meets C.P f as sub rs sub'->aec st (aaq st args) rs sub'=some (rs',bs)->(∀ s,rs'≠[.pan s])->StepV C ops o e st (.gd t want (ac9 rs')) (abp (aaq st args) bs st)
 | gskip {j t:Nat}{want:Bool}{f:FuncId}{args:List SV}{x:SV}:o.guard=some (j,want)->(ops[j]?).bind (·.dst)=some t->gval e 8 t want=some false->
  ac C.P o.op (opd e [(t,want)]) (ρT e [(t,want)] o.op true) (ρT e [(t,want)] o.op false) st=.call f args->StepV C ops o e st (.gd t want x) st
def a4r (C:Cfg) (o:Oper) (e:Env) (st:List BX) (s:SV) (st':List BX):Prop:=
 o.guard=none/\∃ f args z H sub h bs,ac C.P o.op (opd e []) (ρT e [] o.op true) (ρT e [] o.op false) st=.call f args/\renL st (ab9 (aaq st args)) (λ_=>0) args=some z/\agk st (ab9 (aaq st args)) (λ_=>0) (aaq st args)=some sub/\
  Meets C.P f z sub H h/\aec st (aaq st args) H h=some ([.pan s],bs)/\st'=abp (aaq st args) bs st
theorem a2e {R:Type}{C:Cfg} (hC:aam C) {ops:Array Oper}{o:Oper}{e:Env}{st:List BX}{K X:SV->List BX->Option R}{r:R} (h:opV C ops o e st K X=some r):(∃ v st',StepV C ops o e st v st'/\K v st'=some r)\/∃ s st',a4r C o e st s st'/\X s st'=some r:=by
 unfold opV at h;split at h
 ·rename_i hg;split at h
  ·cases h
  ·rename_i c v z;cases c with
   | false=>cases h
   | true=>exact Or.inl ⟨v,st,.val hg z,h⟩
  ·rename_i c v st' z;cases c with
   | false=>cases h
   | true=>exact Or.inl ⟨v,st',.upd hg z,h⟩
  ·cases h
  ·rename_i f args z;split at h
   ·rename_i as sub J O;obtain ⟨rs,Z,I,hm⟩:=(hC R true f as sub _ r h).1 rfl;split at I;case h_2=>cases I
    rename_i ad bs H;rcases ad5 I with ⟨s,rfl,I⟩ | ⟨M,I⟩
    ·exact Or.inr ⟨s,_,⟨hg,f,args,as,rs,sub,Z,bs,z,J,O,hm,H,rfl⟩,I⟩
    ·exact Or.inl ⟨_,_,.call hg z J O hm H M,I⟩
   ·cases h
 ·rename_i j af hg;split at h
  ·cases h
  ·rename_i t ht;split at h
   ·cases h
   ·rename_i b hb;split at h
    ·rename_i c v z;cases hi:imp b c with
     | false=>rw [hi] at h;cases h
     | true=>rw [hi] at h;exact Or.inl ⟨_,_,.gval hg ht hb z hi,h⟩
    ·rename_i f args z;split at h
     ·rename_i as ab J;obtain ⟨h1,ag,ae,aa⟩:=hC R b f as [] _ r h;cases b with
      | true=>
       obtain ⟨rs,Z,I,hm⟩:=h1 rfl;split at I;case h_2=>cases I
       rename_i ad H;obtain ⟨M,I⟩:=adj I;exact Or.inl ⟨_,_,.gcall hg ht hb z ab J (λ_=>⟨rs,Z,hm,H⟩) M,I⟩
      | false=>
       split at aa;case h_2=>cases aa
       obtain ⟨M,aa⟩:=adj aa;exact Or.inl ⟨_,_,.gcall hg ht hb z ab J (λhb=>by cases hb) M,aa⟩
     ·cases b with
      | false=>exact Or.inl ⟨_,_,.gskip hg ht hb z,h⟩
      | true=>
       simp only [Af] at h;split at h
       ·rename_i as sub J O;obtain ⟨rs,Z,I,hm⟩:=(hC R true f as sub _ r h).1 rfl;split at I;case h_2=>cases I
        rename_i ad bs H;obtain ⟨M,I⟩:=adj I;exact Or.inl ⟨_,_,.gcallU hg ht hb z J O hm H M,I⟩
       ·cases h
    ·cases h
theorem au9 {P:Program}{st:List BX}{T:TypeId}{x y:SV}{c:Bool}{v:SV}:acw P st T x y≠.val c v:=by
 intro h;unfold acw at h;simp only [Ax] at h;repeat' split at h
 all_goals cases h
theorem ar1 {P:Program}{st:List BX}{T:TypeId}{x y:SV}{f:FuncId}{o:List SV}:acw P st T x y≠.call f o:=by
 intro h;unfold acw at h;simp only [Ax] at h;repeat' split at h
 all_goals cases h
theorem az3 {P:Program}{st:List BX}{T:TypeId}{x y:SV}{c:Bool}{v:SV}:adu P T st x y≠.val c v:=by
 intro h;unfold adu at h;simp only [Ax] at h;repeat' split at h
 all_goals cases h
theorem ai2 {P:Program}{st:List BX}{T:TypeId}{x y z:SV}{c:Bool}{v:SV}:abq P T st x y z≠.val c v:=by
 intro h;unfold abq at h;split at h
 ·rename_i K E _;cases H:(keyT P K&&isOf P K y&&isOf P E z) with
  | false=>rw [H] at h;cases h
  | true=>
   rw [H] at h;simp only [Af] at h;split at h
   ·split at h
    ·rename_i J I es _;cases o:(Nat.beq K J&&Nat.beq E I)<;>rw [o] at h<;>cases h
    ·cases h
   ·cases h
 ·cases h
theorem asz {P:Program}{st:List BX}{T:TypeId}{r:Option Operand}{c:Bool}{v:SV}:adk P T r st≠.val c v:=by intro h;unfold adk at h;split at h<;>cases h
theorem ak9 {P:Program}{op:Op}{I ρt ρf:Operand->SV}{st:List BX}{m:Nat}{c:Bool}{v:SV} (h:ac P op I ρt ρf (st.take m)=.val c v):ac P op I ρt ρf st=.val c v:=by
 have z:∀ (k:Nat) (b:BX),(st.take m)[k]?=some b->st[k]?=some b:=by
  intro k b o;rw [List.getElem?_take] at o;split at o
  ·exact o
  ·cases o
 have M:∀ (k g:Nat) (E:TypeId) (xs:List PV),agh (st.take m) k g E=some xs->agh st k g E=some xs:=by
  intro k g E xs h;unfold agh at h ⊢;cases o:(st.take m)[k]? with
  | some b=>rw [o] at h;rw [z _ _ o];exact h
  | none=>rw [o] at h;cases h
 have aa:∀ (k g:Nat),aek (st.take m) k g=true->aek st k g=true:=by
  intro k g h;unfold aek at h ⊢;cases o:(st.take m)[k]? with
  | some b=>rw [o] at h;rw [z _ _ o];exact h
  | none=>rw [o] at h;cases h
 cases op with
 | nilCheck x=>
  simp only [ac] at h ⊢;generalize I x=y at h ⊢;cases y with
  | aref k g i E p T=>
   simp only at h ⊢;cases H:aek (st.take m) k g with
   | true=>rw [H] at h;rw [aa _ _ H];exact h
   | false=>rw [H] at h;cases h
  | _=>exact h
 | fieldAddr S x i=>
  simp only [ac,acp] at h ⊢;generalize I x=y at h ⊢;cases y with
  | aref k g j E p T=>
   split at h
   ·split at h
    ·rename_i f hf;cases Z:Nat.beq (P.cellsOf f.type) 0 with
     | true=>rw [Z] at h;cases h
     | false=>
      rw [Z] at h;simp only [Ah] at h ⊢;cases H:aek (st.take m) k g with
      | true=>rw [H] at h;rw [aa _ _ H];exact h
      | false=>rw [H,Bool.and_false] at h;cases h
    ·cases h
   ·cases h
  | _=>exact h
 | indexAddr T x i=>
  simp only [ac,acr] at h ⊢;cases Z:alb P T (I x) (I i) with
  | some r=>rw [Z] at h;exact h
  | none=>
   rw [Z] at h;simp only at h ⊢;cases J:af3 P T (st.take m) (I x) (I i) with
   | some r=>
    rw [J] at h;have:af3 P T st (I x) (I i)=some r:=by
     unfold af3 at J ⊢;split at J
     ·split at J
      ·rename_i xs h2;simp only [M _ _ _ _ h2];exact J
      ·cases J
     ·cases J
    rw [this];exact h
   | none=>
    rw [J] at h;simp only at h;have:af3 P T st (I x) (I i)=none:=by
     unfold af3;split
     ·rename_i E k g E' kk n e1 e2 e3;rw [e2] at h;simp [al0] at h
     ·rfl
    rw [this];exact h
 | load T a=>
  simp only [ac,acj] at h ⊢;generalize I a=x at h ⊢;cases x with
  | ref k path O=>
   simp only at h ⊢;cases o:(st.take m)[k]? with
   | some b=>rw [o] at h;rw [z _ _ o];exact h
   | none=>rw [o] at h;cases H:(Nat.beq T O&&(P.underlying T).isSome)<;>rw [H] at h<;>cases h
  | eref k i E=>
   simp only at h ⊢;cases o:(st.take m)[k]? with
   | some b=>rw [o] at h;rw [z _ _ o];exact h
   | none=>rw [o] at h;cases H:(Nat.beq T E&&aa1 P E)<;>rw [H] at h<;>cases h
  | aref k g i E path O=>
   simp only at h ⊢;cases o:agh (st.take m) k g E with
   | some xs=>rw [o] at h;rw [M _ _ _ _ o];exact h
   | none=>rw [o] at h;cases H:(Nat.beq T O&&aa1 P E&&aa1 P T)<;>rw [H] at h<;>cases h
  | _=>exact h
 | convert s d x=>
  simp only [ac] at h ⊢;unfold aeo at h ⊢;generalize I x=y at h ⊢;cases y with
  | asl k lo n E=>
   simp only at h ⊢;cases o:(st.take m)[k]? with
   | some b=>rw [o] at h;rw [z _ _ o];exact h
   | none=>
    rw [o] at h;split at h
    ·rename_i J h2;cases h2
    ·cases h
  | _=>exact h
 | lookup T x k ok=>
  simp only [ac] at h ⊢;unfold aet at h ⊢;cases hT:P.underlying T with
  | none=>rw [hT] at h;cases h
  | some d=>
   cases d with
   | map K E=>
    rw [hT] at h;simp only at h ⊢;generalize I x=y at h ⊢;cases y with
    | mref j=>
     simp only at h ⊢;cases o:(st.take m)[j]? with
     | some b=>rw [o] at h;rw [z _ _ o];exact h
     | none=>rw [o] at h;cases H:(keyT P K&&isOf P K (I k)&&ack P E&&isOf P E (abk P 12 E))<;>rw [H] at h<;>cases h
    | _=>exact h
   | _=>rw [hT] at h;cases h
 | call cl=>
  simp only [ac] at h ⊢;unfold ah0 at h ⊢;split at h
  ·cases h
  ·split at h<;>cases h
  ·split at h
   ·rename_i x T hx hT;unfold ao3 at h ⊢;generalize I x=y at h ⊢;generalize P.underlying T=u at h ⊢;cases u with
    | none=>cases h
    | some d=>
     cases d with
     | map K E=>
      cases y with
      | mref j=>
       simp only at h ⊢;cases o:(st.take m)[j]? with
       | some b=>rw [o] at h;rw [z _ _ o];exact h
       | none=>rw [o] at h;cases h
      | _=>exact h
     | slice E0=>
      cases y with
      | arr k g E=>
       simp only at h ⊢;cases o:agh (st.take m) k g E with
       | some xs=>rw [o] at h;rw [M _ _ _ _ o];exact h
       | none=>rw [o] at h;cases h
      | _=>exact h
     | _=>cases y<;>exact h
   ·cases h
  ·split at h
   ·rename_i x y T O _ _;cases H:Nat.beq T O with
    | true=>rw [H] at h;exact absurd h au9
    | false=>rw [H] at h;cases h
   ·cases h
  ·exact h
  ·exact h
  ·cases h
 | store T a x=>exact absurd h az3
 | insert T a k x=>exact absurd h ai2
 | mapUpdate T a k x=>exact absurd h ai2
 | makeMap T r=>exact absurd h asz
 | range T x=>simp only [ac] at h;unfold aig at h;split at h<;>first | (cases h;done) | (simp only [Ax] at h;split at h<;>cases h)
 | next x b=>
  simp only [ac] at h;unfold al7 at h;repeat' split at h
  all_goals cases h
 | alloc T=>simp only [ac,agp] at h;cases H:afc P T<;>cases ab:ack P T<;>simp only [H,ab,Af,Ah] at h<;>cases h
 | box T x=>
  simp only [ac,ap6,Ax] at h;repeat' split at h
  all_goals cases h
 | makeSlice T n c=>
  simp only [ac,ac0,aeh,Ax] at h;repeat' split at h
  all_goals cases h
 | _=>exact h
theorem asb {o:Call}{H:Operand->SV}{P:Program}{st st':List BX}{f:FuncId}{args:List SV} (h:ah0 o H P st=.call f args):ah0 o H P st'=.call f args:=by
 unfold ah0 at h ⊢;split at h
 ·exact h
 ·exact h
 ·exfalso;split at h
  ·unfold ao3 at h;split at h<;>first | (cases h;done) | (split at h<;>cases h)
  ·cases h
 ·exfalso;split at h
  ·rename_i x y T I _ _;cases z:Nat.beq T I with
   | false=>rw [z] at h;cases h
   | true=>rw [z] at h;simp only [Af] at h;exact absurd h ar1
  ·cases h
 ·exact h
 ·exact h
 ·cases h
theorem auw {R:Type}{C:Cfg} (hC:aam C) {ops:Array Oper}{o:Oper}{e:Env}{s0:List BX}{K:SV->Option R}{r:R} (h:opW C ops o e s0 K=some r):∃ v,(∀ (st:List BX) (m:Nat),st.take m=s0->StepV C ops o e st v st)/\K v=some r:=by
 have ae:∀ {ρ ρt ρf:Operand->SV}{f:FuncId}{args:List SV},alv o.op=true->ac C.P o.op ρ ρt ρf s0=.call f args->∀ st,ac C.P o.op ρ ρt ρf st=.call f args:=by
  intro ρ ρt ρf f args J ha st;unfold alv at J;split at J
  ·rename_i cl ag;rw [ag] at ha ⊢;exact asb ha
  ·cases J
 unfold opW at h;split at h
 ·rename_i hg;split at h
  ·rename_i c v z;cases c with
   | false=>cases h
   | true=>exact ⟨v,λst m hs=>by subst hs;exact .val hg (ak9 z),h⟩
  ·rename_i f args z;cases J:alv o.op with
   | false=>rw [J] at h;cases h
   | true=>
    rw [J] at h;simp only [Af] at h;split at h
    ·rename_i as ab aa;obtain ⟨rs,ad,M,hm⟩:=(hC R true f as [] _ r h).1 rfl;split at M;case h_2=>cases M
     rename_i ai H;obtain ⟨Z,M⟩:=adj M;refine ⟨_,λst m _=>?_,M⟩;have I:=ag5 (st':=st) ab;have:=StepV.call (ops:=ops) (e:=e) (st:=st) (sub:=[]) hg (ae J z st) (by rw [I];rw [afn st s0];exact aa) (by rw [I];rfl) hm (by rw [I];exact agq H st) Z;rw [I] at this;have e0:abp [] [] st=st:=by simp [abp]
     rw [e0] at this;exact this
    ·cases h
  ·cases h
 ·rename_i j ak hg;split at h
  ·cases h
  ·rename_i t ht;split at h
   ·cases h
   ·rename_i b hb;split at h
    ·rename_i c v z;cases af:imp b c with
     | false=>rw [af] at h;cases h
     | true=>rw [af] at h;exact ⟨_,λst m ah=>by subst ah;exact .gval hg ht hb (ak9 z) af,h⟩
    ·rename_i f args z;cases J:alv o.op with
     | false=>rw [J] at h;cases h
     | true=>
      rw [J] at h;simp only [Af] at h;split at h
      ·rename_i as ab aa;obtain ⟨h1,al,aj,O⟩:=hC R b f as [] _ r h;cases b with
       | true=>
        obtain ⟨rs,ad,M,hm⟩:=h1 rfl;split at M;case h_2=>cases M
        rename_i ai H;obtain ⟨Z,M⟩:=adj M;exact ⟨_,λst m _=>.gcall hg ht hb (ae J z st) (ag5 ab) (by rw [afn st s0];exact aa) (λ_=>⟨rs,ad,hm,H⟩) Z,M⟩
       | false=>
        split at O;case h_2=>cases O
        obtain ⟨Z,O⟩:=adj O;exact ⟨_,λst m _=>.gcall hg ht hb (ae J z st) (ag5 ab) (by rw [afn st s0];exact aa) (λhb=>by cases hb) Z,O⟩
      ·cases h
    ·cases h
section
variable {Γ:Ctx}
theorem apu {D:Dom}{ow:Own}{μ:Nat->Nat}{e:Env}{st st':List BX}{a:Act}{w:World}{C:Cfg} (hn:Γ.n=C.n) (hs:Slots Γ D ow μ e st a w) {o:Oper} (hd:am1 C.n o.dst=true) (hc:∀ d,o.dst=some d->au6 e d) {v:SV}{r:Result Next}
 (h:OpRes Γ D ow μ st w r v st') (s:SV) (M:∀ (D':Dom) (w':World) (H:Own) (I:Nat->Nat) (u:Value),SRep Γ.P D' w' H I st' v u->SlotRep Γ.P D' w' H I st' a s u) (aa:∀ t Z x,s=.gd t Z x->o.dst≠some t)
 (next:Act->World->Prop) (Q:Exit->Act->World->Prop) (z:∀ a' w',Rel Γ (put e o.dst s) st' a' w'->next a' w'):o.upon Γ.P a next Q r:=by
 obtain ⟨u,w',D',H,I,O,hw,hm,hv⟩:=h
 have J:Rel Γ (put e o.dst s) st' (a.put o.dst u) w':=by refine ⟨D',H,I,hw,(hs.mono hm).put o.dst s u (λx hx=>⟨by rw [hn];exact af9 hd x hx,hc x hx⟩) (M _ _ _ _ _ hv) aa⟩
 rcases O with O | ⟨O,hu⟩
 ·rw [O,Oper.upon_value];exact z _ _ J
 ·rw [O,Oper.upon_skip,<-hu];exact z _ _ J
theorem an5 {C:Cfg} (hP:C.P=Γ.P) (hn:Γ.n=C.n) {ops:Array Oper}{i:Nat}{o:Oper} (ho:ops[i]?=some o) {e eF:Env}{st st':List BX}{v:SV} (h:StepV C ops o e st v st') (hd:am1 C.n o.dst=true)
 (aJ:∀ t,e t=.undef\/e t=eF t) {a:Act}{w:World} (aG:Rel Γ eF st a w) (hc:∀ d,o.dst=some d->au6 eF d) (aC:∀ j H t,o.guard=some (j,H)->(ops[j]?).bind (·.dst)=some t->o.dst≠some t)
 (next:Act->World->Prop) (Q:Exit->Act->World->Prop) (O:(∀ u H x,v=.gd u H x->∃ j,o.guard=some (j,H)/\(ops[j]?).bind (·.dst)=some u)->∀ a' w',Rel Γ (put eF o.dst v) st' a' w'->next a' w'):wpOp Γ.P ops Q i next a w:=by
 obtain ⟨D,ow,μ,hw,hs⟩:=aG
 have ah:Slots Γ D ow μ e st a w:=⟨hs.size,hs.defers,λt=>by
  rcases aJ t with h | h
  ·rw [h];exact .undef
  ·rw [h];exact hs.slot t⟩
 unfold wpOp
 simp only [ho]
 have aE:∀ f,a.eval (.func f)=.func (.func f) #[] #[]:=λf=>rfl
 have ay:∀ x,SRep Γ.P D w ow μ st (opd e [] x) (a.eval x):=λx=>abm ah [] (λ_ hx=>by cases hx) x
 have au:∀ (gs:List (Nat×Bool)),(∀ z,z∈gs->a.tmps.getD z.1 Go.undef=.bool z.2)->∀ c x y,o.op=.pick c x y->(a.eval c=.bool true->SRep Γ.P D w ow μ st (ρT e gs o.op true x) (a.eval x))/\(a.eval c=.bool false->SRep Γ.P D w ow μ st (ρT e gs o.op false y) (a.eval y)):=by
  intro gs aF c x y aK;rw [aK];refine ⟨λhc=>?_,λhc=>?_⟩
  ·cases c with
   | tmp t=>exact abm ah ((t,true)::gs) (λz hz=>by
    rcases Bl.1 hz with rfl | hz
    ·exact hc
    ·exact aF z hz) x
   | _=>exact ay x
  ·cases c with
   | tmp t=>exact abm ah ((t,false)::gs) (λz hz=>by
    rcases Bl.1 hz with rfl | hz
    ·exact hc
    ·exact aF z hz) y
   | _=>exact ay y
 have plain:∀ {r:Result Next},OpRes Γ D ow μ st w r v st'->o.upon Γ.P a next Q r:=by
  intro r ap;have ar:∀ t H x,v≠.gd t H x:=by intro t H x hv;obtain ⟨u,w',D',aN,aO,_,_,_,aL⟩:=ap;subst hv;cases aL
  exact apu hn hs hd hc ap v (λ_ _ _ _ _ h=>h.slot) (λt H x hv=>absurd hv (ar t H x)) next Q (O λu H x hv=>absurd hv (ar u H x))
 cases h with
 | val hg J=>
  have ag:Region.wanted o (yielded ops a.tmps)=true:=by simp [Region.wanted,hg]
  simp only [ag,Ba]
  refine Or.inl ?_
  unfold Oper.wp
  rw [hP] at J
  exact plain (aem hw ay o (au [] (λ_ hx=>by cases hx)) v J)
 | upd hg J=>
  have ag:Region.wanted o (yielded ops a.tmps)=true:=by simp [Region.wanted,hg]
  simp only [ag,Ba]
  refine Or.inl ?_
  unfold Oper.wp
  rw [hP] at J
  exact plain (akd hw ay o v st' J)
 | @call f args as rs aA sub aD bs hg J aq av hm af ab=>
  have ag:Region.wanted o (yielded ops a.tmps)=true:=by simp [Region.wanted,hg]
  simp only [ag,Ba]
  refine Or.inl ?_
  unfold Oper.wp
  rw [hP] at J hm
  obtain ⟨ao,am,aw,ae⟩:=ab5 ay aE o f args J
  rw [am,hm.1 ao w,Oper.upon_enter]
  refine (ade hw (ac8 _ _) av aq aw ae hm af).mono λen w' ⟨v,D',az,aB,he,h1,h2,h3⟩=>?_
  rcases ab4 h3 with ⟨s,e,_⟩ | ⟨_,h3,al⟩
  ·exact absurd e (ab s)
  rw [al] at he
  subst he
  have ar:∀ t H x,ac9 aA≠.gd t H x:=by intro t H x hv;rw [hv] at h3;cases h3
  exact O (λu H x hv=>absurd hv (ar u H x)) _ _ ⟨D',az,aB,h1,(hs.mono h2).put o.dst _ v (λx hx=>⟨by rw [hn];exact af9 hd x hx,hc x hx⟩) h3.slot (λt H x Z=>absurd Z (ar t H x))⟩
 | @gval j t H b c v hg ht hb J hi=>
  have aa:=afa ah 8 t H b hb
  have ak:=afr (tmps:=a.tmps) hg ht
  have ai:=aC j H t hg ht
  have aj:∀ u I x,SV.gd t H v=.gd u I x->∃ j,o.guard=some (j,I)/\(ops[j]?).bind (·.dst)=some u:=by intro u I x he;cases he;exact ⟨j,hg,ht⟩
  cases b with
  | false=>
   have ab:a.tmps.getD t Go.undef≠.bool H:=λZ=>by have:=aa.1 Z;cases this
   have ax:Region.wanted o (yielded ops a.tmps)=false:=by
    cases hc:Region.wanted o (yielded ops a.tmps) with
    | false=>rfl
    | true=>exact absurd (ak.1 hc) ab
   simp only [ax,A7,A8]
   exact O aj _ _ ⟨D,ow,μ,hw,hs.put o.dst _ Go.undef (λx hx=>⟨by rw [hn];exact af9 hd x hx,hc x hx⟩) ⟨λZ=>absurd Z ab,λ_=>rfl⟩ (λu I x Z M=>by cases Z;exact ai M)⟩
  | true=>
   have ad:a.tmps.getD t Go.undef=.bool H:=aa.2 rfl
   have ag:Region.wanted o (yielded ops a.tmps)=true:=ak.2 ad
   simp only [ag,Ba]
   refine Or.inl ?_
   unfold Oper.wp
   have aI:c=true:=by cases c with | true=>rfl | false=>simp [imp] at hi
   subst aI
   rw [hP] at J
   have an:∀ x,SRep Γ.P D w ow μ st (opd e [(t,H)] x) (a.eval x):=λx=>abm ah [(t,H)] (λz hz=>by simp at hz;subst hz;exact ad) x
   have ap:=aem hw an o (au [(t,H)] (λz hz=>by simp at hz;subst hz;exact ad)) v J
   exact apu hn hs hd hc ap (.gd t H v) (λ_ _ _ _ _ h=>⟨λ_=>h,λZ=>absurd ad Z⟩) (λu I x Z M=>by cases Z;exact ai M) next Q (O aj)
 | @gcall j t H b f args as aA hg ht hb J aM aq hm ab=>
  have aa:=afa ah 8 t H b hb
  have ak:=afr (tmps:=a.tmps) hg ht
  have ai:=aC j H t hg ht
  have aj:∀ u I x,SV.gd t H (ac9 aA)=.gd u I x->∃ j,o.guard=some (j,I)/\(ops[j]?).bind (·.dst)=some u:=by intro u I x he;cases he;exact ⟨j,hg,ht⟩
  cases b with
  | false=>
   have ab:a.tmps.getD t Go.undef≠.bool H:=λZ=>by have:=aa.1 Z;cases this
   have ax:Region.wanted o (yielded ops a.tmps)=false:=by
    cases hc:Region.wanted o (yielded ops a.tmps) with
    | false=>rfl
    | true=>exact absurd (ak.1 hc) ab
   simp only [ax,A7,A8]
   exact O aj _ _ ⟨D,ow,μ,hw,hs.put o.dst _ Go.undef (λx hx=>⟨by rw [hn];exact af9 hd x hx,hc x hx⟩) ⟨λZ=>absurd Z ab,λ_=>rfl⟩ (λu I x Z M=>by cases Z;exact ai M)⟩
  | true=>
   have ad:a.tmps.getD t Go.undef=.bool H:=aa.2 rfl
   have ag:Region.wanted o (yielded ops a.tmps)=true:=ak.2 ad
   simp only [ag,Ba]
   refine Or.inl ?_
   unfold Oper.wp
   obtain ⟨rs,aD,hm,af⟩:=hm rfl
   rw [hP] at J hm
   have an:∀ x,SRep Γ.P D w ow μ st (opd e [(t,H)] x) (a.eval x):=λx=>abm ah [(t,H)] (λz hz=>by simp at hz;subst hz;exact ad) x
   obtain ⟨ao,am,aw,ae⟩:=ab5 an aE o f args J
   rw [am,hm.1 ao w,Oper.upon_enter]
   refine (ade hw (ks:=[]) (by simp) (sub:=[]) rfl aq aw ae hm (agq af st)).mono λen w' ⟨v,D',az,aB,he,h1,h2,h3⟩=>?_
   rcases ab4 h3 with ⟨s,e,_⟩ | ⟨_,h3,al⟩
   ·exact absurd e (ab s)
   rw [al] at he
   subst he
   have aH:abp [] [] st=st:=by simp [abp]
   rw [aH] at h1 h2 h3
   exact O aj _ _ ⟨D',az,aB,h1,(hs.mono h2).put o.dst _ v (λx hx=>⟨by rw [hn];exact af9 hd x hx,hc x hx⟩) ⟨λ_=>h3,λZ=>absurd ad Z⟩ (λu I x Z M=>by cases Z;exact ai M)⟩
 | @gcallU j t H f args as rs aA sub aD bs hg ht hb J aq av hm af ab=>
  have aa:=afa ah 8 t H true hb
  have ak:=afr (tmps:=a.tmps) hg ht
  have ai:=aC j H t hg ht
  have aj:∀ u I x,SV.gd t H (ac9 aA)=.gd u I x->∃ j,o.guard=some (j,I)/\(ops[j]?).bind (·.dst)=some u:=by intro u I x he;cases he;exact ⟨j,hg,ht⟩
  have ad:a.tmps.getD t Go.undef=.bool H:=aa.2 rfl
  have ag:Region.wanted o (yielded ops a.tmps)=true:=ak.2 ad
  simp only [ag,Ba]
  refine Or.inl ?_
  unfold Oper.wp
  rw [hP] at J hm
  have an:∀ x,SRep Γ.P D w ow μ st (opd e [(t,H)] x) (a.eval x):=λx=>abm ah [(t,H)] (λz hz=>by simp at hz;subst hz;exact ad) x
  obtain ⟨ao,am,aw,ae⟩:=ab5 an aE o f args J
  rw [am,hm.1 ao w,Oper.upon_enter]
  refine (ade hw (ac8 _ _) av aq aw ae hm af).mono λen w' ⟨v,D',az,aB,he,h1,h2,h3⟩=>?_
  rcases ab4 h3 with ⟨s,e,_⟩ | ⟨_,h3,al⟩
  ·exact absurd e (ab s)
  rw [al] at he
  subst he
  exact O aj _ _ ⟨D',az,aB,h1,(hs.mono h2).put o.dst _ v (λx hx=>⟨by rw [hn];exact af9 hd x hx,hc x hx⟩) ⟨λ_=>h3,λZ=>absurd ad Z⟩ (λu I x Z M=>by cases Z;exact ai M)⟩
 | @gskip j t H f args x hg ht hb J=>
  have aa:=afa ah 8 t H false hb
  have ak:=afr (tmps:=a.tmps) hg ht
  have ai:=aC j H t hg ht
  have aj:∀ u I y,SV.gd t H x=.gd u I y->∃ j,o.guard=some (j,I)/\(ops[j]?).bind (·.dst)=some u:=by intro u I y he;cases he;exact ⟨j,hg,ht⟩
  have ab:a.tmps.getD t Go.undef≠.bool H:=λZ=>by have:=aa.1 Z;cases this
  have ax:Region.wanted o (yielded ops a.tmps)=false:=by
   cases hc:Region.wanted o (yielded ops a.tmps) with
   | false=>rfl
   | true=>exact absurd (ak.1 hc) ab
  simp only [ax,A7,A8]
  exact O aj _ _ ⟨D,ow,μ,hw,hs.put o.dst _ Go.undef (λx hx=>⟨by rw [hn];exact af9 hd x hx,hc x hx⟩) ⟨λZ=>absurd Z ab,λ_=>rfl⟩ (λu I x Z M=>by cases Z;exact ai M)⟩
theorem atn {C:Cfg} (hP:C.P=Γ.P) {ops:Array Oper}{i:Nat}{o:Oper} (ho:ops[i]?=some o) {e eF:Env}{st st':List BX}{s:SV} (h:a4r C o e st s st')
 (ab:∀ t,e t=.undef\/e t=eF t) {a:Act}{w:World} (J:Rel Γ eF st a w) (next:Act->World->Prop) (Q:Exit->Act->World->Prop)
 (hX:∀ v a' w',PRel Γ s st' v a' w'->Q (.panic [{ v,recovered:=false }]) a' w'):wpOp Γ.P ops Q i next a w:=by
 obtain ⟨D,ow,μ,hw,hs⟩:=J
 obtain ⟨hg,f,args,as,rs,sub,ak,bs,I,aa,O,hm,H,rfl⟩:=h
 have ad:Slots Γ D ow μ e st a w:=⟨hs.size,hs.defers,λt=>by
  rcases ab t with h | h
  ·rw [h];exact .undef
  ·rw [h];exact hs.slot t⟩
 have ah:∀ x,SRep Γ.P D w ow μ st (opd e [] x) (a.eval x):=λx=>abm ad [] (λ_ hx=>by cases hx) x
 have ag:∀ f,a.eval (.func f)=.func (.func f) #[] #[]:=λf=>rfl
 unfold wpOp
 simp only [ho]
 have af:Region.wanted o (yielded ops a.tmps)=true:=by simp [Region.wanted,hg]
 simp only [af,Ba]
 refine Or.inl ?_
 unfold Oper.wp
 rw [hP] at I hm
 obtain ⟨Z,M,ae,z⟩:=ab5 ah ag o f args I
 rw [M,hm.1 Z w,Oper.upon_enter]
 refine (ade hw (ac8 _ _) O aa ae z hm H).mono λen w' ⟨v,D',ai,aj,he,h1,h2,h3⟩=>?_
 subst he
 exact hX v a w' ⟨hs.defers,D',ai,aj,h1,h3⟩
end
end Go.Ab
namespace Go.Ab
open Go
inductive Anc (ops:Array Oper):Nat->Nat->Prop
 | edge {j:Nat}{o:Oper}{x:Edge}:ops[j]?=some o->x∈o.after->Region.binds .any x=true->Anc ops x.on j
 | step {i j:Nat}{o:Oper}{x:Edge}:ops[j]?=some o->x∈o.after->Region.binds .any x=true->Anc ops i x.on->Anc ops i j
theorem aqi {acc:List Nat}{i:Nat}:∀ {es:List Edge},Nat.testBit (aeq acc es) i=true->∃ x,x∈es/\Region.binds .any x=true/\(i=x.on\/Nat.testBit (acc.getD x.on 0) i=true):=by
 intro es;induction es with
 | nil=>intro h;simp [aeq] at h
 | cons x r I=>
  intro h;unfold aeq at h;cases o:Region.binds .any x with
  | false=>rw [o] at h;obtain ⟨y,z,H⟩:=I h;exact ⟨y,List.mem_cons_of_mem _ z,H⟩
  | true=>
   rw [o] at h;simp only [Af,Nat.testBit_or,Bd] at h;rcases h with (h | h) | h
   ·rw [Nat.testBit_two_pow] at h;exact ⟨x,by simp,o,Or.inl (by simpa [eq_comm] using h)⟩
   ·exact ⟨x,by simp,o,Or.inr h⟩
   ·obtain ⟨y,z,H⟩:=I h;exact ⟨y,List.mem_cons_of_mem _ z,H⟩
theorem axc {ops:Array Oper}:∀ (l:List Oper) (acc:List Nat),ops.toList.drop acc.length=l->(∀ j i,Nat.testBit (acc.getD j 0) i=true->Anc ops i j)->∀ j i,Nat.testBit ((ancL l acc).getD j 0) i=true->Anc ops i j:=by
 intro l;induction l with
 | nil=>intro acc _ h;exact h
 | cons o r ih=>
  intro acc hl h;unfold ancL;have ho:ops[acc.length]?=some o:=by
   have:(ops.toList.drop acc.length)[0]?=some o:=by rw [hl];rfl
   simpa using this
  have M:ops.toList.drop (acc.length+1)=r:=by
   have:(ops.toList.drop acc.length).drop 1=r:=by rw [hl];rfl
   rwa [Bo] at this
  refine ih _ (by simpa using M) (λj i H=>?_);by_cases hj:j<acc.length
  ·exact h j i (by simpa [List.getD,Au hj] using H)
  ·by_cases J:j=acc.length
   ·subst J;have I:Nat.testBit (aeq acc o.after.toList) i=true:=by simpa [List.getD] using H
    obtain ⟨x,O,Z,z⟩:=aqi I;rcases z with rfl | z
    ·exact .edge ho (by simpa using O) Z
    ·exact .step ho (by simpa using O) Z (h _ _ z)
   ·have:(acc++[aeq acc o.after.toList])[j]?=none:=A4 (by simp;omega);simp [List.getD,this] at H
theorem aqy {ops:Array Oper}{i j:Nat} (h:(mkDI ops).lt i j=true):i<j/\Anc ops i j:=by unfold DI.lt at h;simp only [Ai] at h;refine ⟨Aw h.1,axc ops.toList [] (by simp) (λj i o=>by simp at o) j i h.2⟩
def Down (ops:Array Oper) (L:Array Bool):Prop:=∀ j,L.getD j false=true->∀ o,ops[j]?=some o->∀ x,x∈o.after->Region.binds .any x=true->L.getD x.on false=true
theorem axd {ops:Array Oper}{L:Array Bool} (M:Down ops L) {i j:Nat} (h:Anc ops i j) (J:∀ o,ops[j]?=some o->∀ x,x∈o.after->Region.binds .any x=true->L.getD x.on false=true):L.getD i false=true:=by
 induction h with
 | edge H I z=>exact J _ H _ I z
 | step H I z _ O=>exact O (M _ (J _ H _ I z))
theorem atx {t:Nat}:∀ {l:List Oper}{k i:Nat},ace t l k=some i->k<=i/\∃ o,l[i-k]?=some o/\o.dst=some t:=by
 intro l;induction l with
 | nil=>intro k i h;simp [ace] at h
 | cons o r O=>
  intro k i h;have next:ace t r (k+1)=some i->k<=i/\∃ z,(o::r)[i-k]?=some z/\z.dst=some t:=by
   intro h;obtain ⟨Z,z,I,J⟩:=O h;refine ⟨by omega,z,?_,J⟩;have:i-k=(i-(k+1))+1:=by omega
   rw [this];simpa using I
  unfold ace at h;split at h
  ·rename_i d M;cases H:Nat.beq d t with
   | true=>rw [H] at h;simp only [Af,Al] at h;subst h;exact ⟨Nat.le_refl _,o,by simp,by rw [M,Aa H]⟩
   | false=>rw [H] at h;exact next h
  ·exact next h
theorem aq0:∀ {l:List Nat},auu l=true->l.Nodup:=by
 intro l;induction l with
 | nil=>intro _;simp
 | cons x r z=>intro h;simp only [auu,Ai,Bool.not_eq_true'] at h;refine List.nodup_cons.2 ⟨λo=>?_,z h.2⟩;have:r.any (Nat.beq x)=true:=List.any_eq_true.2 ⟨x,o,Bi x⟩;rw [this] at h;cases h.1
theorem a0k {t:Nat}:∀ {l:List Oper}{k i:Nat}{o:Oper},(dsts l).Nodup->l[i]?=some o->o.dst=some t->ace t l k=some (k+i):=by
 intro l;induction l with
 | nil=>intro k i o _ h;simp at h
 | cons x r ih=>
  intro k i o H h I;have Z:(dsts r).Nodup:=by
   unfold dsts at*;simp only [List.filterMap_cons] at H;split at H
   ·exact H
   ·exact (List.nodup_cons.1 H).2
  cases i with
  | zero=>simp at h;subst h;unfold ace;simp [I]
  | succ i=>
   have J:r[i]?=some o:=by simpa using h
   have M:t∈dsts r:=List.mem_filterMap.2 ⟨o,List.mem_of_getElem? J,I⟩;have z:ace t r (k+1)=some (k+(i+1)):=by rw [ih (k:=k+1) Z J I];congr 1;omega
   unfold ace;split
   ·rename_i d hx;cases O:Nat.beq d t with
    | true=>have:=Aa O;subst this;unfold dsts at H M;simp only [List.filterMap_cons,hx] at H;exact absurd M (List.nodup_cons.1 H).1
    | false=>exact z
   ·exact z
theorem ad1 {f:Nat->Oper->Bool}:∀ {l:List Oper}{k:Nat},ala f l k=true->∀ i o,l[i]?=some o->f (k+i) o=true:=by
 intro l;induction l with
 | nil=>intro k _ i o h;simp at h
 | cons x r H=>
  intro k h i o z;simp only [ala,Ai] at h;cases i with
  | zero=>simp at z;subst z;exact h.1
  | succ i=>have:=H h.2 i o (by simpa using z);rwa [show k+(i+1)=k+1+i by omega]
theorem aqj:∀ {l:List Oper}{k:Nat},aon l k=true->∀ i o,l[i]?=some o->∀ x,x∈o.after->Region.binds .any x=true->x.on<k+i:=by
 intro l;induction l with
 | nil=>intro k _ i o h;simp at h
 | cons y r J=>
  intro k h i o z x I H;simp only [aon,Ai,List.all_eq_true] at h;cases i with
  | zero=>simp at z;subst z;have:=h.1 x (by simpa using I);simp only [H,A3,Bool.false_or] at this;exact Aw this
  | succ i=>have:=J h.2 i o (by simpa using z) x I H;omega
structure DStep (C:Cfg) (d:DI) (ops:Array Oper) (n0 j:Nat) (o:Oper) (e:Env) (st:List BX) (v:SV) (st':List BX) (lk lk':List LM):Prop where
 dst:am1 C.n o.dst=true
 gd:gdOk d j o=true
 upd:d.upd j o=true->(bif acu o.op then d.isN j else d.isA j)=true/\n0<=st.length/\n0<=st'.length/\(d.soft o=true->ay4 n0 o (d.mask j e)=true)/\StepV C ops o (d.mask j e) st v st'
 non:d.upd j o=false->st'=st/\∀ st2,(d.isA j=true->st2=st)->(d.isA j=false->st2.take (bif d.isB j then n0 else 0)=st.take (bif d.isB j then n0 else 0))->lmOf d n0 j o (d.mask j e) lk=none->StepV C ops o (d.mask j e) st2 v st2
 lm:∀ p,d.upd j o=false->lmOf d n0 j o (d.mask j e) lk=some p->acj C.P p.T st p.a=.val true v/\{ p with v:=v }∈lk'
 log:∀ p,p∈lk'->p.u=true->p∈lk\/(p.j=j/\d.upd j o=true/\p.f=λk=>aif C o (d.mask j e) st k)
 sub:∀ p,p∈lk->p∈lk'
 ok:d.upd j o=true->∀ p,p∈lk->p.u=false->d.cmp p.j j=false->(acu o.op||d.soft o)=true\/aif C o (d.mask j e) st p.k=true\/acj C.P p.T st' p.a=.val true p.v
structure DPan (C:Cfg) (d:DI) (n0 j:Nat) (o:Oper) (e:Env) (st:List BX) (sp:SV) (st':List BX):Prop where
 upd:d.upd j o=true
 ext:acu o.op=false
 isA:d.isA j=true
 last:d.last j=true
 len:n0<=st.length
 step:a4r C o (d.mask j e) st sp st'
theorem ard {a:Ac}{v:SV} (h:ati a v=true):a=.val true v:=by
 unfold ati at h;split at h
 ·simp only [Ai] at h;obtain ⟨⟨o,z⟩,H⟩:=h;rw [Aa o,Aa z,Aa H]
 ·cases h
theorem aqw {d:DI}{J j:Nat}{o:Oper}{e:Env}{I:List LM}{p:LM} (h:lmOf d J j o e I=some p):o.guard=none/\(∃ x,o.op=.load p.T x/\p.a=opd e [] x)/\an2 p.a=some p.k/\p.k<J/\p.j=j/\d.isA j=false/\p.u=false/\
 ala (λi x=>!(d.upd i x)||Nat.ble j i||d.cmp i j||ay5 I i p.k) d.l 0=true:=by
 unfold lmOf at h
 split at h
 ·rename_i T a M H;split at h
  ·rename_i k O;cases z:(Nat.blt k J&&!(d.isA j)&&!(d.isB j)&&ala (λi x=>!(d.upd i x)||Nat.ble j i||d.cmp i j||ay5 I i k) d.l 0) with
   | false=>rw [z] at h;cases h
   | true=>rw [z] at h;simp only [Af,Al] at h;subst h;simp only [Ai,Bool.not_eq_true'] at z;exact ⟨M,⟨a,H,rfl⟩,O,Aw z.1.1.1,rfl,z.1.1.2,rfl,z.2⟩
  ·cases h
 ·cases h
theorem a2f {R:Type}{C:Cfg}{ops:Array Oper}{o:Oper}{e:Env}{st:List BX}{K:SV->Option R}{r:R}{T:TypeId}{x:Operand} (h:opW C ops o e st K=some r) (I:o.guard=none) (H:o.op=.load T x):∃ v,acj C.P T st (opd e [] x)=.val true v/\K v=some r:=by
 unfold opW at h;rw [I] at h;simp only [H,ac] at h;split at h
 ·rename_i c v z;cases c with
  | false=>cases h
  | true=>exact ⟨v,z,h⟩
 ·simp [alv] at h
 ·cases h
theorem awn {R:Type}{C:Cfg} (hC:aam C) {d:DI}{ops:Array Oper}{n0:Nat}{r:R}{K:Env->List BX->Option R}{X:SV->List BX->Option R}:∀ (l:List Oper) (j:Nat) (e:Env) (st:List BX) (lk:List LM),runD C d ops n0 l j e st lk K X=some r->
 ∃ (N:Nat) (v:Nat->SV) (s:Nat->List BX) (E:Nat->Env) (LK:Nat->List LM),s j=st/\E j=e/\LK j=lk/\N<=l.length/\(∀ i o,i<N->l[i]?=some o->DStep C d ops n0 (j+i) o (E (j+i)) (s (j+i)) (v (j+i)) (s (j+i+1)) (LK (j+i)) (LK (j+i+1))/\E (j+i+1)=put (E (j+i)) o.dst (v (j+i)))/\
  ((N=l.length/\K (E (j+N)) (s (j+N))=some r)\/∃ o sp st',l[N]?=some o/\DPan C d n0 (j+N) o (E (j+N)) (s (j+N)) sp st'/\X sp st'=some r):=by
 intro l
 induction l with
 | nil=>intro j e st lk h;exact ⟨0,λ_=>.undef,λ_=>st,λ_=>e,λ_=>lk,rfl,rfl,rfl,by simp,λi o _ h=>by simp at h,Or.inl ⟨rfl,h⟩⟩
 | cons o l ih=>
  intro j e st lk h
  unfold runD at h
  cases hg:(am1 C.n o.dst&&gdOk d j o) with
  | false=>rw [hg] at h;cases h
  | true=>
   rw [hg] at h
   simp only [Af] at h
   simp only [Ai] at hg
   have key:(∃ v0 st' ae,DStep C d ops n0 j o e st v0 st' lk ae/\runD C d ops n0 l (j+1) (put e o.dst v0) st' ae K X=some r)\/∃ sp st',DPan C d n0 j o e st sp st'/\X sp st'=some r:=by
    cases hu:d.upd j o with
    | true=>
     rw [hu] at h;simp only [Af] at h;cases hA:((bif acu o.op then d.isN j else d.isA j)&&Nat.ble n0 st.length&&(!(d.soft o)||ay4 n0 o (d.mask j e))) with
     | false=>rw [hA] at h;cases h
     | true=>
      rw [hA] at h;simp only [Af] at h;simp only [Ai,Bd,Bool.not_eq_true'] at hA;obtain ⟨⟨ab,af⟩,ah⟩:=hA;rcases a2e hC h with ⟨v0,st',hs,H⟩ | ⟨sp,st',hs,H⟩
      ·refine Or.inl ?_;cases M:(Nat.ble n0 st'.length&&lmOk C d j o (d.mask j e) st st' lk) with
       | false=>rw [M] at H;cases H
       | true=>
        rw [M] at H;simp only [Ai] at M;refine ⟨v0,st',_,⟨hg.1,hg.2,λ_=>⟨ab,Aw af,Aw M.1,λhx=>?_,hs⟩,λI=>absurd I (by rw [hu];decide),λp I=>absurd I (by rw [hu];decide),λp Z _=>?_,λp Z=>List.mem_append_left _ Z,λ_ p Z ad ai=>?_⟩,H⟩
        ·rcases ah with h2 | h2
         ·rw [hx] at h2;cases h2
         ·exact h2
        ·rcases Bk.1 Z with Z | Z
         ·exact Or.inl Z
         ·rw [List.mem_singleton] at Z;subst Z;exact Or.inr ⟨rfl,hu,rfl⟩
        ·have O:=List.all_eq_true.1 M.2 p Z;rw [ai,ad] at O;simp only [Bool.false_or,Bd] at O;rcases O with ((O | O) | O) | O
         ·exact Or.inl (by rw [O];rfl)
         ·exact Or.inl (by rw [O];simp)
         ·exact Or.inr (Or.inl O)
         ·exact Or.inr (Or.inr (ard O))
      ·refine Or.inr ⟨sp,st',?_⟩;cases M:(d.last j&&!(acu o.op)) with
       | false=>rw [M] at H;cases H
       | true=>rw [M] at H;simp only [Ai,Bool.not_eq_true'] at M;rw [M.2] at ab;exact ⟨⟨hu,M.2,ab,M.1,Aw af,hs⟩,H⟩
    | false=>
     rw [hu] at h;simp only [Ah] at h;refine Or.inl ?_;cases J:lmOf d n0 j o (d.mask j e) lk with
     | some p=>
      rw [J] at h;simp only at h;obtain ⟨aj,⟨x,ak,ha⟩,_,_,_,an,ad,_⟩:=aqw J;obtain ⟨v0,M,H⟩:=a2f h aj ak;refine ⟨v0,st,_,⟨hg.1,hg.2,λI=>absurd I (by rw [hu];decide),λ_=>⟨rfl,λaa _ _ hn=>?_⟩,λq _ z=>?_,λq z al=>?_,λq z=>List.mem_append_left _ z,λI=>absurd I (by rw [hu];decide)⟩,H⟩
      ·rw [J] at hn;cases hn
      ·rw [J] at z;cases z;exact ⟨by rw [ha];exact M,by simp⟩
      ·rcases Bk.1 z with z | z
       ·exact Or.inl z
       ·rw [List.mem_singleton] at z;subst z;exact absurd al (by simp [ad])
     | none=>
      rw [J] at h;simp only at h;cases hA:d.isA j with
      | true=>rw [hA] at h;simp only [Af] at h;obtain ⟨v0,hs,H⟩:=auw hC h;refine ⟨v0,st,lk,⟨hg.1,hg.2,λI=>absurd I (by rw [hu];decide),λ_=>⟨rfl,λaa h1 _ _=>?_⟩,λq _ z=>absurd z (by rw [J];simp),λ_ z _=>Or.inl z,λ_ z=>z,λI=>absurd I (by rw [hu];decide)⟩,H⟩;exact hs aa aa.length (by rw [List.take_length,h1 hA])
      | false=>rw [hA] at h;simp only [Ah] at h;obtain ⟨v0,hs,H⟩:=auw hC h;exact ⟨v0,st,lk,⟨hg.1,hg.2,λI=>absurd I (by rw [hu];decide),λ_=>⟨rfl,λaa _ h1 _=>hs aa _ (h1 hA)⟩,λq _ z=>absurd z (by rw [J];simp),λ_ z _=>Or.inl z,λ_ z=>z,λI=>absurd I (by rw [hu];decide)⟩,H⟩
   rcases key with ⟨v0,st',ae,hs,H⟩ | ⟨sp,st',Z,H⟩
   ·obtain ⟨N,v,s,E,LK,h1,h2,ag,hN,O,h4⟩:=ih (j+1) _ _ _ H;refine ⟨N+1,λi=>if i=j then v0 else v i,λi=>if i=j then st else s i,λi=>if i=j then e else E i,λi=>if i=j then lk else LK i,by simp,by simp,by simp,by simpa using hN,λi x am hi=>?_,?_⟩
    ·cases i with
     | zero=>simp at hi;subst hi;simp only [Nat.add_zero,Ba];rw [if_neg (by omega),if_neg (by omega),if_neg (by omega),h1,h2,ag];exact ⟨hs,rfl⟩
     | succ i=>
      have:=O i x (by omega) (by simpa using hi);have e1:j+(i+1)=j+1+i:=by omega
      rw [e1];simp only [if_neg (show ¬(j+1+i=j) by omega),if_neg (show ¬(j+1+i+1=j) by omega)];exact this
    ·rw [show j+(N+1)=j+1+N by omega];simp only [if_neg (show ¬(j+1+N=j) by omega)];rcases h4 with ⟨h4,h5⟩ | ⟨o',sp,st',h4,h5,h6⟩
     ·exact Or.inl ⟨by simp [h4],h5⟩
     ·exact Or.inr ⟨o',sp,st',by simpa using h4,h5,h6⟩
   ·exact ⟨0,λ_=>.undef,λ_=>st,λ_=>e,λ_=>lk,rfl,rfl,rfl,by simp,λi o h=>by omega,Or.inr ⟨o,sp,st',rfl,Z,H⟩⟩
end Go.Ab
namespace Go.Ab
open Go
theorem ak8 {P:Program}{z:Op}{h ρt ρf:Operand->SV}{st:List BX} (o:acu z=true):ac P z h ρt ρf st=match extV P z h st.length with | some (v,b)=>.upd true v (st++[b]) | none=>.fail:=by
 unfold acu at o;split at o
 ·rename_i T;simp only [ac,agp,extV];cases afc P T<;>cases ack P T<;>rfl
 ·rename_i T x;simp only [ac,ap6,extV];cases (afc P T&&aiu P 3 T (h x))<;>cases agj P T (h x)<;>rfl
 ·rename_i T r;simp only [ac,adk,extV];split<;>rfl
 ·cases o
theorem aop {C:Cfg}{ops:Array Oper}{o:Oper}{e:Env}{st st':List BX}{v:SV} (I:acu o.op=true) (h:StepV C ops o e st v st'):o.guard=none/\∃ b,st'=st++[b]/\extV C.P o.op (opd e []) st.length=some (v,b):=by
 cases h with
 | val H z=>rw [ak8 I] at z;split at z<;>cases z
 | gval H M J z=>rw [ak8 I] at z;split at z<;>cases z
 | gcall H M J z=>rw [ak8 I] at z;split at z<;>cases z
 | gcallU H M J z=>rw [ak8 I] at z;split at z<;>cases z
 | gskip H M J z=>rw [ak8 I] at z;split at z<;>cases z
 | call H z=>rw [ak8 I] at z;split at z<;>cases z
 | upd H z=>
  rw [ak8 I] at z;split at z
  ·rename_i Z b O;cases z;exact ⟨H,b,rfl,O⟩
  ·cases z
theorem auf {C:Cfg}{ops:Array Oper}{o:Oper}{e:Env}{st st':List BX}{v:SV}{z:Nat} (I:acu o.op=true) (h:StepV C ops o e st v st') (H:z<=st.length):st'.take z=st.take z:=by obtain ⟨_,b,rfl,_⟩:=aop I h;rw [List.take_append_of_le_length H]
theorem agf {P:Program}{T:TypeId}{a x:Operand}{o ρt ρf:Operand->SV}{st:List BX}{f:FuncId}{args:List SV} (h:ac P (.store T a x) o ρt ρf st=.call f args):False:=by
 simp only [ac,adu,Ax] at h;repeat' split at h
 all_goals cases h
theorem ark {C:Cfg}{ops:Array Oper}{o:Oper}{e:Env}{st st':List BX}{v:SV}{J:Nat} (I:ay4 J o e=true) (h:StepV C ops o e st v st'):st'.take J=st.take J:=by
 unfold ay4 at I;split at I;case h_2=>cases I
 rename_i T a x H;split at I;case h_2=>cases I
 rename_i k p T' Z;have hk:J<=k:=Aw I;cases h with
 | val=>rfl
 | gval=>rfl
 | gcall=>rfl
 | upd M z=>
  rw [H] at z;simp only [ac,adu,Z,Ax] at z;repeat' split at z
  all_goals first
   | (cases z;done)
   | (
    obtain ⟨_,_,rfl⟩:=Ac.upd.inj z
    apply List.ext_getElem?
    intro i
    by_cases O:i<J
    ·rw [List.getElem?_take_of_lt O,List.getElem?_take_of_lt O,Ar (by omega)]
    ·rw [A4 (by simp;omega),A4 (by simp;omega)])
 | gskip=>rfl
 | gcallU M ht hb z=>exfalso;rw [H] at z;exact agf z
 | call M z=>exfalso;rw [H] at z;exact agf z
theorem avb:∀ (ks:List Nat) (bs st:List BX) (k:Nat),k∉ks->k<st.length->(abp ks bs st)[k]?=st[k]?:=by
 intro ks;induction ks with
 | nil=>intro bs st k _ o;simp [abp,Au o]
 | cons x r J=>
  intro bs st k H o;cases bs with
  | nil=>rfl
  | cons b q=>have z:k∉r:=λh=>H (by simp [h]);have I:k≠x:=λh=>H (by simp [h]);simp only [abp];rw [J q (st.set x b) k z (by simpa using o),Ar (by omega)]
theorem ai4 {C:Cfg}{ops:Array Oper}{o:Oper}{e:Env}{st st':List BX}{v:SV}{k:Nat} (hk:k<st.length) (h:StepV C ops o e st v st') (H:aif C o e st k=true):st'[k]?=st[k]?:=by
 unfold aif at H;cases h with
 | val=>rfl
 | gval=>rfl
 | gcall=>rfl
 | gskip=>rfl
 | gcallU hg=>rw [hg] at H;simp at H
 | upd hg z=>
  rw [hg] at H;have H:(match (none:Option (Nat×Bool)),ac C.P o.op (opd e []) (ρT e [] o.op true) (ρT e [] o.op false) st with | none,.call _ args=>!((aaq st args).any (Nat.beq k)) | none,.upd _ _ _=>auv o.op e k | _,_=>false)=true:=H;rw [z] at H;simp only at H;unfold auv at H;split at H;case h_3=>cases H
  case h_2=>
   rename_i c M
   split at H
   case h_2=>cases H
   rename_i x y O J
   rw [M] at z
   simp only [ac,ah0,O,J] at z
   split at z
   case h_2=>cases z
   rename_i x' y' T T' Z ad
   simp only [List.cons.injEq,and_true] at Z
   obtain ⟨rfl,rfl⟩:=Z
   cases hT:Nat.beq T T' with
   | false=>rw [hT] at z;cases z
   | true=>
   rw [hT] at z
   simp only [Af] at z
   have put:∀ (j:Nat) (b:BX),(!(Nat.beq j k))=true->(st.set j b)[k]?=st[k]?:=λj b hb=>Ar (λe=>by subst e;simp at hb)
   have aa:∀ (b:BX),(st++[b])[k]?=st[k]?:=λb=>Au hk
   unfold acw at z
   split at z
   case h_2=>cases z
   simp only [Ax] at z
   split at z
   case isFalse=>cases z
   split at H
   all_goals first
    | (cases H;done)
    | (
     rename_i hx
     rw [hx] at z
     (try dsimp only at z)
     repeat' split at z
     all_goals first
      | (cases z;done)
      | contradiction
      | (obtain ⟨_,_,rfl⟩:=Ac.upd.inj z;exact put _ _ H)
      | (obtain ⟨_,_,rfl⟩:=Ac.upd.inj z;exact aa _)
      | (obtain ⟨_,_,rfl⟩:=Ac.upd.inj z;rfl))
  rename_i T a x M;split at H;case h_2=>cases H
  rename_i i I;have ab:i≠k:=λh=>by subst h;rw [Bi] at H;cases H
  rw [M] at z;unfold an2 at I;split at I;all_goals (try cases I)
  all_goals
   rename_i ha
   simp only [ac,adu,ha,Ax] at z
   repeat' split at z
   all_goals first
    | (cases z;done)
    | (
     obtain ⟨_,_,rfl⟩:=Ac.upd.inj z
     rw [Ar ab])
 | @call f args _ _ _ _ _ _ hg z _ _ _ _ _=>rw [hg] at H;have H:(match (none:Option (Nat×Bool)),ac C.P o.op (opd e []) (ρT e [] o.op true) (ρT e [] o.op false) st with | none,.call _ args=>!((aaq st args).any (Nat.beq k)) | none,.upd _ _ _=>auv o.op e k | _,_=>false)=true:=H;rw [z] at H;simp only [Bool.not_eq_true'] at H;refine avb _ _ _ _ (λhm=>?_) hk;have:(aaq st args).any (Nat.beq k)=true:=List.any_eq_true.2 ⟨k,hm,Bi k⟩;rw [H] at this;cases this
theorem afy {P:Program}{T:TypeId}{a:SV}{k:Nat}{st st':List BX} (o:an2 a=some k) (h:st'[k]?=st[k]?):acj P T st' a=acj P T st a:=by
 unfold an2 at o;split at o;all_goals (try cases o)
 ·simp only [acj,h]
 ·simp only [acj,h]
 ·simp only [acj,agh,h]
theorem abi {L:Array Bool}{j i:Nat} (o:j<L.size):(L.setIfInBounds j true).getD i false=if i=j then true else L.getD i false:=by
 by_cases h:i=j
 ·subst h;simp [o]
 ·have:j≠i:=λe=>h e.symm;simp [h,Array.getElem?_setIfInBounds_ne this]
theorem afp (n i:Nat):(Array.replicate n false).getD i false=false:=by by_cases h:i<n<;>simp [h]
def envL (ops:Array Oper) (v:Nat->SV) (e:Env) (L:Array Bool):Env:=λt=>match ace t ops.toList 0 with | some i=>if L.getD i false=true then v i else e t | none=>e t
def unl (n:Nat) (L:Array Bool):Nat:=((List.range n).filter λi=>!L.getD i false).length
theorem ax5 {p q:Nat->Bool}{j:Nat} (H:∀ i,q i=true->p i=true) (I:p j=true) (J:q j=false):∀ {l:List Nat},j∈l->(l.filter q).length<(l.filter p).length:=by
 intro l;have le:∀ l:List Nat,(l.filter q).length<=(l.filter p).length:=by
  intro l;induction l with
  | nil=>simp
  | cons x r z=>
   simp only [List.filter_cons];cases o:q x with
   | true=>simp [H x o];exact z
   | false=>cases M:p x<;>simp<;>omega
 induction l with
 | nil=>intro h;cases h
 | cons x r z=>
  intro h;simp only [List.filter_cons];rcases Bl.1 h with rfl | h
  ·simp [I,J];have:=le r;omega
  ·have:=z h;cases o:q x with
   | true=>simp [H x o];exact this
   | false=>cases M:p x<;>simp<;>omega
section
variable {Γ:Ctx}
def aoc (ops:Array Oper) (i:Nat):Prop:=∃ o,ops[i]?=some o/\(mkDI ops).upd i o=true
def aew (ops:Array Oper) (i:Nat):Prop:=∃ o,ops[i]?=some o/\acu o.op=true
def NUpd (ops:Array Oper) (i:Nat):Prop:=∃ o,ops[i]?=some o/\(mkDI ops).upd i o=true/\acu o.op=false
theorem aoq {d:DI}{j:Nat}{o:Oper} (h:acu o.op=true):d.upd j o=true:=by
 unfold DI.upd;have:ayl o.op=true:=by
  unfold acu at h;split at h
  ·rename_i z;rw [z];rfl
  ·rename_i z;rw [z];rfl
  ·rename_i z;rw [z];rfl
  ·cases h
 rw [this];rfl
structure Part (ops:Array Oper) (s:Nat->List BX) (L:Array Bool) (k:Nat) (σ:List BX):Prop where
 len:(s k).length<=σ.length
 pre:∀ p,p<(s k).length->σ[p]?=(s k)[p]?
 fil:∀ i b,k<=i->aew ops i->L.getD i false=true->s (i+1)=s i++[b]->σ[(s i).length]?=some b
 hol:∀ p,(s k).length<=p->p<σ.length->σ[p]?=some .hole\/∃ i,k<=i/\aew ops i/\L.getD i false=true/\(s i).length=p
 top:σ.length=(s k).length\/∃ i,k<=i/\aew ops i/\L.getD i false=true/\σ.length=(s i).length+1
section
variable {ops:Array Oper}{s:Nat->List BX} (hE:∀ i,aew ops i->∃ b,s (i+1)=s i++[b]) (hN:∀ i,i<ops.size->¬aoc ops i->s (i+1)=s i)
include hE hN
theorem aq2 {i:Nat} (M:i<ops.size) (O:¬NUpd ops i):(aew ops i/\∃ b,s (i+1)=s i++[b])\/(¬aew ops i/\s (i+1)=s i):=by
 have I:ops[i]?=some ops[i]:=Array.getElem?_eq_getElem M;cases J:acu ops[i].op with
 | true=>have H:aew ops i:=⟨_,I,J⟩;exact Or.inl ⟨H,hE i H⟩
 | false=>
  refine Or.inr ⟨λH=>?_,hN i M λZ=>?_⟩
  ·obtain ⟨o,h,z⟩:=H;rw [I] at h;cases h;rw [J] at z;cases z
  ·obtain ⟨o,h,z⟩:=Z;rw [I] at h;cases h;exact O ⟨_,I,z,J⟩
theorem ai6 {p q:Nat} (J:p<=q) (Z:q<=ops.size) (z:∀ i,p<=i->i<q->¬NUpd ops i):∃ H,s q=s p++H:=by
 induction q with
 | zero=>
  have:p=0:=by omega
  subst this;exact ⟨[],by simp⟩
 | succ q M=>
  by_cases I:p=q+1
  ·subst I;exact ⟨[],by simp⟩
  ·obtain ⟨H,h⟩:=M (by omega) (by omega) (λi o O=>z i o (by omega));rcases aq2 hE hN (i:=q) (by omega) (z q (by omega) (by omega)) with ⟨_,b,o⟩ | ⟨_,o⟩
   ·exact ⟨H++[b],by rw [o,h];simp⟩
   ·exact ⟨H,by rw [o,h]⟩
theorem ajz {p q x:Nat} (aa:p<=q) (hq:q<=ops.size) (z:∀ i,p<=i->i<q->¬NUpd ops i) (O:(s p).length<=x) (o:x<(s q).length):∃ i,p<=i/\i<q/\aew ops i/\(s i).length=x:=by
 induction q with
 | zero=>
  have:p=0:=by omega
  subst this;omega
 | succ q Z=>
  by_cases he:p=q+1
  ·subst he;omega
  ·have h:∀ i,p<=i->i<q->¬NUpd ops i:=λi O o=>z i O (by omega);rcases aq2 hE hN (i:=q) (by omega) (z q (by omega) (by omega)) with ⟨hx,b,H⟩ | ⟨_,H⟩
   ·rw [H] at o;simp at o;by_cases I:x<(s q).length
    ·obtain ⟨i,J,q2,M⟩:=Z (by omega) (by omega) h I;exact ⟨i,J,by omega,M⟩
    ·exact ⟨q,by omega,by omega,hx,by omega⟩
   ·rw [H] at o;obtain ⟨i,J,q2,M⟩:=Z (by omega) (by omega) h o;exact ⟨i,J,by omega,M⟩
theorem apc {i q:Nat} (I:i<q) (J:q<=ops.size) (z:∀ o,i<o->o<q->¬NUpd ops o) {b:BX} (h:s (i+1)=s i++[b]):(s q)[(s i).length]?=some b/\(s i).length<(s q).length:=by obtain ⟨Z,M⟩:=ai6 hE hN (p:=i+1) (q:=q) (by omega) J (λo O H=>z o (by omega) H);rw [M,h];simp
theorem afk {L:Array Bool}{k j:Nat}{σ:List BX} (P:Part ops s L k σ) (J:k<=j) (hj:j<=ops.size) (o:∀ i,k<=i->i<j->¬NUpd ops i) (z:∀ i,k<=i->i<j->aew ops i->L.getD i false=true) (aa:∀ i,j<=i->aew ops i->L.getD i false=false):σ=s j:=by
 have lt:∀ i,k<=i->aew ops i->L.getD i false=true->i<j:=λi h1 h2 h3=>by
  rcases Nat.lt_or_ge i j with h | h
  ·exact h
  ·have:=aa i h h2;rw [this] at h3;cases h3
 have af:σ.length=(s j).length:=by
  rcases P.top with h | ⟨i,h1,h2,h3,h4⟩
  ·by_cases hc:(s k).length<(s j).length
   ·exfalso;obtain ⟨i,O,I,H,q4⟩:=ajz hE hN J hj o (Nat.le_refl _) hc;obtain ⟨b,Z⟩:=hE i H;have:=P.fil i b O H (z i O I H) Z;have:=(List.getElem?_eq_some_iff.1 this).1;omega
   ·obtain ⟨τ,ht⟩:=ai6 hE hN J hj o;have:(s j).length=(s k).length+τ.length:=by rw [ht];simp
    omega
  ·have ad:=lt i h1 h2 h3;obtain ⟨b,Z⟩:=hE i h2;have ah:=(apc hE hN ad hj (λM O I=>o M (by omega) I) Z).2;by_cases hc:(s i).length+1<(s j).length
   ·exfalso;have ag:(s (i+1)).length=(s i).length+1:=by rw [Z];simp
    obtain ⟨M,O,I,H,q4⟩:=ajz hE hN (p:=i+1) (q:=j) (by omega) hj (λM O I=>o M (by omega) I) (x:=(s i).length+1) (by omega) hc;obtain ⟨b',ab⟩:=hE M H;have:=P.fil M b' (by omega) H (z M (by omega) I H) ab;have:=(List.getElem?_eq_some_iff.1 this).1;omega
   ·omega
 obtain ⟨τ,ht⟩:=ai6 hE hN J hj o;apply List.ext_getElem?;intro p;by_cases h1:p<(s k).length
 ·rw [P.pre p h1,ht,Au h1]
 ·by_cases h2:p<(s j).length
  ·obtain ⟨i,O,I,H,q4⟩:=ajz hE hN J hj o (by omega) h2;obtain ⟨b,Z⟩:=hE i H;have e1:=P.fil i b O H (z i O I H) Z;have e2:=(apc hE hN I hj (λM ai ae=>o M (by omega) ae) Z).1;rw [q4] at e1 e2;rw [e1,e2]
  ·rw [A4 (by omega),A4 (by omega)]
theorem azg {L L':Array Bool}{k j:Nat}{O:List BX} (P:Part ops s L k O) (aa:k<=j) (hj:j<ops.size) (ae:∀ i,k<=i->i<j->¬NUpd ops i) (af:∀ i,k<=i->aew ops i->L.getD i false=true->∀ i',k<=i'->i'<i->¬NUpd ops i')
 (hx:aew ops j) {b:BX} (hb:s (j+1)=s j++[b]) (ah:L.getD j false=false) (hL:∀ i,L'.getD i false=if i=j then true else L.getD i false):
 (∃ n,(s j).length=(O++List.replicate n BX.hole).length/\Part ops s L' k (O++List.replicate n .hole++[b]))\/(O[(s j).length]?=some .hole/\Part ops s L' k (O.set (s j).length b)):=by
 obtain ⟨τ,ht⟩:=ai6 hE hN aa (by omega) ae
 have ai:(s k).length<=(s j).length:=by rw [ht];simp
 have ad:∀ i,L.getD i false=true->L'.getD i false=true:=λi h=>by rw [hL];split<;>simp_all
 have ab:L'.getD j false=true:=by rw [hL];simp
 have I:∀ i,k<=i->aew ops i->L.getD i false=true->(s i).length≠(s j).length:=by
  intro i H z J he;have ak:i≠j:=λhh=>by subst hh;rw [ah] at J;cases J
  have hi:i<ops.size:=by obtain ⟨o,ho,_⟩:=z;exact (Array.getElem?_eq_some_iff.1 ho).1
  rcases Nat.lt_or_gt_of_ne ak with h | h
  ·obtain ⟨b',ag⟩:=hE i z;have:=(apc hE hN h (by omega) (λi' q1 q2=>ae i' (by omega) q2) ag).2;omega
  ·have:=(apc hE hN h (by omega) (λi' q1 q2=>af i H z J i' (by omega) q2) hb).2;omega
 by_cases hc:(s j).length<O.length
 ·refine Or.inr ⟨?_,⟨by simpa using P.len,λp hp=>?_,λi b' H z J h4=>?_,λp H z=>?_,?_⟩⟩
  ·rcases P.hol _ ai hc with h | ⟨i,H,z,J,h4⟩
   ·exact h
   ·exact absurd h4 (I i H z J)
  ·rw [Ar (by omega)];exact P.pre p hp
  ·by_cases M:i=j
   ·subst M;rw [hb] at h4;have:b=b':=by simpa using h4
    rw [List.getElem?_set_self hc,this]
   ·have Z:L.getD i false=true:=by rw [hL,if_neg M] at J;exact J
    rw [Ar (λh=>I i H z Z h.symm)];exact P.fil i b' H z Z h4
  ·by_cases hp:p=(s j).length
   ·exact Or.inr ⟨j,aa,hx,ab,hp.symm⟩
   ·rw [Ar (by omega)];rcases P.hol p H (by simpa using z) with h | ⟨i,q1,q2,q3,q4⟩
    ·exact Or.inl h
    ·exact Or.inr ⟨i,q1,q2,ad i q3,q4⟩
  ·rcases P.top with h | ⟨i,q1,q2,q3,q4⟩
   ·exact Or.inl (by simpa using h)
   ·exact Or.inr ⟨i,q1,q2,ad i q3,by simpa using q4⟩
 ·refine Or.inl ⟨(s j).length-O.length,by simp;omega,⟨?_,λp hp=>?_,λi b' H z J h4=>?_,λp H z=>?_,Or.inr ⟨j,aa,hx,ab,by simp;omega⟩⟩⟩
  ·have:=P.len;simp;omega
  ·have:=P.len;rw [Ap,Au (by omega)];exact P.pre p hp
  ·by_cases M:i=j
   ·subst M;rw [hb] at h4;have:b=b':=by simpa using h4
    rw [Av (by simp;omega)];have e:(s i).length-(O++List.replicate ((s i).length-O.length) BX.hole).length=0:=by simp;omega
    rw [e,this];rfl
   ·have Z:L.getD i false=true:=by rw [hL,if_neg M] at J;exact J
    have e:=P.fil i b' H z Z h4;have aj:=(List.getElem?_eq_some_iff.1 e).1;rw [Ap,Au aj];exact e
  ·by_cases hp:p<O.length
   ·rw [Ap,Au hp];rcases P.hol p H hp with h | ⟨i,q1,q2,q3,q4⟩
    ·exact Or.inl h
    ·exact Or.inr ⟨i,q1,q2,ad i q3,q4⟩
   ·by_cases al:p<(s j).length
    ·refine Or.inl ?_;rw [Ap,Av (by omega),Au (by simp;omega)];rw [List.getElem?_replicate,if_pos (by omega)]
    ·refine Or.inr ⟨j,aa,hx,ab,?_⟩;simp at z;omega
end
theorem a7i {C:Cfg} (hP:C.P=Γ.P) (hn:Γ.n=C.n) {ops:Array Oper}{i:Nat}{o:Oper} (ho:ops[i]?=some o) {e eF:Env}{k:Nat}{v:SV}{b:BX} (hg:o.guard=none) (H:extV C.P o.op (opd e []) k=some (v,b)) (hd:am1 C.n o.dst=true)
 (aa:∀ t,e t=.undef\/e t=eF t) {σ Z:List BX}{a:Act}{w:World} (O:Rel Γ eF σ a w) (ad:aob Γ.np σ k b Z) (hc:∀ d,o.dst=some d->au6 eF d)
 (next:Act->World->Prop) (Q:Exit->Act->World->Prop) (J:(∀ u z x,v≠.gd u z x)->∀ a' w',Rel Γ (put eF o.dst v) Z a' w'->next a' w'):wpOp Γ.P ops Q i next a w:=by
 obtain ⟨D,ow,μ,hw,hs⟩:=O
 have ab:Slots Γ D ow μ e σ a w:=⟨hs.size,hs.defers,λt=>by
  rcases aa t with h | h
  ·rw [h];exact .undef
  ·rw [h];exact hs.slot t⟩
 unfold wpOp
 simp only [ho]
 have ag:∀ x,SRep Γ.P D w ow μ σ (opd e [] x) (a.eval x):=λx=>abm ab [] (λ_ hx=>by cases hx) x
 have af:Region.wanted o (yielded ops a.tmps)=true:=by simp [Region.wanted,hg]
 simp only [af,Ba]
 refine Or.inl ?_
 unfold Oper.wp
 rw [hP] at H
 have I:=ax1 hw ag o H ad
 have M:∀ t z x,v≠.gd t z x:=by intro t z x hv;obtain ⟨u,w',D',ah,ai,_,_,_,ae⟩:=I;subst hv;cases ae
 exact apu hn hs hd hc I v (λ_ _ _ _ _ h=>h.slot) (λt z x hv=>absurd hv (M t z x)) next Q (J M)
theorem azn {z:Env}{M:List BX}{a:Act}{w:World} (n:Nat) (h:Rel Γ z M a w):Rel Γ z (M++List.replicate n .hole) a w:=by
 obtain ⟨D,ow,μ,Z,H⟩:=h;obtain ⟨O,I⟩:=WRel.pushHoles n Z;refine ⟨D,ow,μ,O,⟨H.size,H.defers,λt=>?_⟩⟩;have:=H.slot t;revert this;cases z t with
 | gd u J x=>exact λo=>⟨λq=>I (o.1 q),o.2⟩
 | _=>exact λo=>I o
structure DInv (Γ:Ctx) (ops:Array Oper) (N n0:Nat) (v:Nat->SV) (s:Nat->List BX) (e:Env) (L:Array Bool) (a:Act) (w:World):Prop where
 size:L.size=ops.size
 down:Down ops L
 gd:∀ t u want x,envL ops v e L t=.gd u want x->∃ g o,L.getD g false=true/\ops[g]?=some o/\o.dst=some u
 lt:∀ i,L.getD i false=true->i<N
 k:∃ k σ,k<=N/\(∀ i,i<k->aoc ops i->L.getD i false=true)/\(∀ i,k<=i->NUpd ops i->L.getD i false=false)/\n0<=(s k).length/\Part ops s L k σ/\Rel Γ (envL ops v e L) σ a w
theorem awm {R:Type}{C:Cfg} (hC:aam C) (hP:C.P=Γ.P) (hn:Γ.n=C.n) {ops:Array Oper} (hd:aqh Γ.P ops=true) {e:Env}{st:List BX}{K:Env->List BX->Option R}{X:SV->List BX->Option R}{r:R} (h:runD C (mkDI ops) ops st.length ops.toList 0 e st [] K X=some r)
 (cj:∀ t u M x,e t≠.gd u M x) {Q:Exit->Act->World->Prop} (hK:∀ e' st' a' w',K e' st'=some r->Rel Γ e' st' a' w'->Q .normal a' w') (hX:∀ s st' v a' w',X s st'=some r->PRel Γ s st' v a' w'->Q (.panic [{ v,recovered:=false }]) a' w') (a:Act) (w:World) (bj:Rel Γ e st a w):
 wpAny Γ.P .any ops Q ops.size (Array.replicate ops.size false) a w:=by
 simp only [aqh,Ai] at hd
 obtain ⟨⟨_,aF⟩,bt⟩:=hd
 have bt:=aq0 bt
 have aF:=aqj aF
 obtain ⟨N,v,s0,E,LK,bM,bU,bB,aR,aO,hk⟩:=awn hC ops.toList 0 e st [] h
 have aT:ops.toList.length=ops.size:=by simp
 rw [aT] at aR
 simp only [Nat.zero_add,aT] at aO hk
 obtain ⟨s,aW,ct,cu⟩:∃ s:Nat->List BX,(∀ i,i<=N->s i=s0 i)/\(∀ i,N<=i->aew ops i->s (i+1)=s i++[.hole])/\(∀ i,N<=i->¬aew ops i->s (i+1)=s i):=by
  refine ⟨λi=>if i<=N then s0 i else s0 N++((List.range (i-N)).filter λd=>(ops[N+d]?).any λo=>acu o.op).map λ_=>.hole,λi hi=>by simp [hi],λi hi ⟨o,ho,hx⟩=>?_,λi hi hx=>?_⟩
  ·simp only [show ¬(i+1<=N) by omega,A8,show i+1-N=(i-N)+1 by omega,List.range_succ,List.filter_append,List.map_append];have e1:(ops[N+(i-N)]?).any (λo=>acu o.op)=true:=by rw [show N+(i-N)=i by omega,ho];simp [hx]
   simp only [List.filter_cons,e1,Ba,List.filter_nil,Bh,List.map_nil];by_cases af:i<=N
   ·have:i=N:=by omega
    subst this;simp
   ·simp only [af,A8,Ap]
  ·simp only [show ¬(i+1<=N) by omega,A8,show i+1-N=(i-N)+1 by omega,List.range_succ,List.filter_append,List.map_append];have e1:(ops[N+(i-N)]?).any (λo=>acu o.op)=false:=by
    rw [show N+(i-N)=i by omega];cases ho:ops[i]? with
    | none=>rfl
    | some o=>
         cases hb:acu o.op with
         | true=>exact absurd ⟨o,ho,hb⟩ hx
         | false=>simp [hb]
   simp only [List.filter_cons,e1,List.filter_nil,List.map_nil,List.append_nil,A7,A8];by_cases af:i<=N
   ·have:i=N:=by omega
    subst this;simp
   ·simp only [af,A8]
 have aV:s 0=st:=(aW 0 (by omega)).trans bM
 have aa:∀ j o,j<N->ops[j]?=some o->DStep C (mkDI ops) ops st.length j o (E j) (s j) (v j) (s (j+1)) (LK j) (LK (j+1))/\E (j+1)=put (E j) o.dst (v j):=by intro j o hj ho;have:=aO j o hj (by simpa using ho);rw [aW j (by omega),aW (j+1) (by omega)];simpa using this
 have bW:∀ p i j,i<=j->j<=N->p∈LK i->p∈LK j:=by
  intro p i j ad;induction j with
  | zero=>
   intro _ hp;have:i=0:=by omega
   subst this;exact hp
  | succ j ih=>
   intro hj hp;by_cases he:i=j+1
   ·subst he;exact hp
   ·have ho:ops[j]?=some ops[j]:=Array.getElem?_eq_getElem (by omega);exact (aa j _ (by omega) ho).1.sub p (ih (by omega) (by omega) hp)
 have bC:∀ j,j<=N->∀ p,p∈LK j->p.u=true->∃ q o,q<j/\ops[q]?=some o/\p.j=q/\(mkDI ops).upd q o=true/\p.f=λk=>aif C o ((mkDI ops).mask q (E q)) (s q) k:=by
  intro j;induction j with
  | zero=>intro _ p hp;rw [bB] at hp;cases hp
  | succ j ih=>
   intro hj p hp hu;have ho:ops[j]?=some ops[j]:=Array.getElem?_eq_getElem (by omega);rcases (aa j _ (by omega) ho).1.log p hp hu with h | ⟨I,O,z⟩
   ·obtain ⟨q,o,q1,q2⟩:=ih (by omega) p h hu;exact ⟨q,o,by omega,q2⟩
   ·exact ⟨j,_,by omega,ho,I,O,z⟩
 have a6:∀ j o t,ops[j]?=some o->o.dst=some t->ace t ops.toList 0=some j:=by intro j o t ho az;have:=a0k (k:=0) bt (by simpa using ho) az;simpa using this
 have aB:∀ t i,ace t ops.toList 0=some i->∃ o,ops[i]?=some o/\o.dst=some t:=by intro t i hw;obtain ⟨_,o,I,O⟩:=atx hw;exact ⟨o,by simpa using I,O⟩
 have hE:∀ j,j<=N->∀ t,E j t=match ace t ops.toList 0 with | some i=>if i<j then v i else e t | none=>e t:=by
  intro j;induction j with
  | zero=>intro _ t;rw [bU];split<;>simp
  | succ j ih=>
   intro hj t;have ho:ops[j]?=some ops[j]:=Array.getElem?_eq_getElem (by omega);rw [(aa j _ (by omega) ho).2];have ih:=ih (by omega) t;cases az:ops[j].dst with
   | none=>
    simp only [put,ih];cases hw:ace t ops.toList 0 with
    | none=>rfl
    | some i=>
     simp only;obtain ⟨o,I,O⟩:=aB t i hw;have:i≠j:=λhh=>by subst hh;rw [ho] at I;cases I;rw [az] at O;cases O
     by_cases ad:i<j
     ·rw [if_pos ad,if_pos (by omega)]
     ·rw [if_neg ad,if_neg (by omega)]
   | some d=>
    simp only [put,Env.set];cases hb:Nat.beq t d with
    | true=>have:=Aa hb;subst this;rw [a6 j _ t ho az];simp
    | false=>
     simp only [Ah,ih];cases hw:ace t ops.toList 0 with
     | none=>rfl
     | some i=>
      simp only;obtain ⟨o,I,O⟩:=aB t i hw;have:i≠j:=λhh=>by subst hh;rw [ho] at I;cases I;rw [az] at O;cases O;rw [Bi] at hb;cases hb
      by_cases ad:i<j
      ·rw [if_pos ad,if_pos (by omega)]
      ·rw [if_neg ad,if_neg (by omega)]
 have aP:∀ i,aew ops i->∃ b,s (i+1)=s i++[b]:=by
  intro i hx;by_cases hi:i<N
  ·obtain ⟨o,ho,hx⟩:=hx;obtain ⟨_,_,_,_,a5⟩:=(aa i o hi ho).1.upd (aoq hx);obtain ⟨_,b,I,_⟩:=aop hx a5;exact ⟨b,I⟩
  ·exact ⟨_,ct i (by omega) hx⟩
 have aD:∀ i,i<ops.size->¬aoc ops i->s (i+1)=s i:=by
  intro i hi ar;have ho:ops[i]?=some ops[i]:=Array.getElem?_eq_getElem hi;by_cases ca:i<N
  ·refine ((aa i _ ca ho).1.non ?_).1;cases hb:(mkDI ops).upd i ops[i] with
   | false=>rfl
   | true=>exact absurd ⟨_,ho,hb⟩ ar
  ·exact cu i (by omega) (λ⟨o,I,O⟩=>ar ⟨o,I,aoq O⟩)
 have ck:Γ.np<=st.length:=by obtain ⟨_,_,_,hw,_⟩:=bj;exact hw.np
 have bv:∀ p q,p<=q->q<=ops.size->(∀ i,p<=i->i<q->¬aoc ops i)->s p=s q:=by
  intro p q co;induction q with
  | zero=>
   intro _ _;have:p=0:=by omega
   subst this;rfl
  | succ q ih=>
   intro hq ar;by_cases he:p=q+1
   ·subst he;rfl
   ·have ho:ops[q]?=some ops[q]:=Array.getElem?_eq_getElem (by omega);have hu:(mkDI ops).upd q ops[q]=false:=by
     cases hb:(mkDI ops).upd q ops[q] with
     | false=>rfl
     | true=>exact absurd ⟨_,ho,hb⟩ (ar q (by omega) (by omega))
    rw [ih (by omega) (by omega) (λi I O=>ar i I (by omega)),aD q (by omega) (ar q (by omega) (by omega))]
 have aX:∀ p q,p<=q->q<=N->(∀ i o,p<=i->i<q->ops[i]?=some o->(mkDI ops).upd i o=true->acu o.op=true\/(mkDI ops).soft o=true)->(s p).take st.length=(s q).take st.length:=by
  intro p q co;induction q with
  | zero=>
   intro _ _;have:p=0:=by omega
   subst this;rfl
  | succ q ih=>
   intro hq ar;by_cases he:p=q+1
   ·subst he;rfl
   ·have ho:ops[q]?=some ops[q]:=Array.getElem?_eq_getElem (by omega);rw [ih (by omega) (by omega) (λi o I O=>ar i o I (by omega))];cases hu:(mkDI ops).upd q ops[q] with
    | false=>rw [((aa q _ (by omega) ho).1.non hu).1]
    | true=>
     have hx:=ar q _ (by omega) (by omega) ho hu;obtain ⟨_,O,_,h4,z⟩:=(aa q _ (by omega) ho).1.upd hu;rcases hx with hx | hx
     ·exact (auf hx z O).symm
     ·exact (ark (h4 hx) z).symm
 have bb:∀ L a w,DInv Γ ops N st.length v s e L a w->(∀ i,i<ops.size->L.getD i false=true)->Q .normal a w:=by
  intro L a w hi ap;have bn:N=ops.size:=by
   rcases Nat.lt_or_ge N ops.size with h | h
   ·have:=hi.lt N (ap N h);omega
   ·omega
  have hk:K (E ops.size) (s ops.size)=some r:=by
   rcases hk with ⟨_,hk⟩ | ⟨o,_,_,ho,_⟩
   ·rw [<-bn,aW N (Nat.le_refl _)];exact hk
   ·have:=(List.getElem?_eq_some_iff.1 ho).1;rw [aT] at this;omega
  obtain ⟨k,σ,aH,aI,al,a1,ai,hr⟩:=hi.k;have e1:σ=s ops.size:=afk aP aD ai (by omega) (Nat.le_refl _) (λi I O hu=>by
   have:=al i I hu;rw [ap i O] at this;cases this) (λi _ O _=>ap i O) (λi I ⟨o,ho,_⟩=>by
   have:=(Array.getElem?_eq_some_iff.1 ho).1;omega)
  have e2:envL ops v e L=E ops.size:=by
   funext t;rw [hE _ (by omega)];unfold envL;cases hw:ace t ops.toList 0 with
   | none=>rfl
   | some i=>obtain ⟨o,I,_⟩:=aB t i hw;have ag:i<ops.size:=(Array.getElem?_eq_some_iff.1 I).1;simp only [ap i ag,if_pos ag,Ba]
  rw [e1,e2] at hr;exact hK _ _ _ _ hk hr
 have a3:∀ L,L.size=ops.size->Region.ready .any ops L=[]->∀ i,i<ops.size->L.getD i false=true:=by
  intro L cG hr i;induction i using Nat.strongRecOn with
  | _ i ih=>
   intro hi;cases hb:L.getD i false with
   | true=>rfl
   | false=>
    have ho:ops[i]?=some ops[i]:=Array.getElem?_eq_getElem hi;have hm:i∈Region.ready .any ops L:=mem_ready.2 ⟨by
     have ag:i<L.size:=by omega
     simpa [ag] using hb,_,ho,λx hx b3=>by
     have ag:=aF i _ (by simpa using ho) x hx b3;exact ih x.on (by omega) (by omega)⟩
    rw [hr] at hm;cases hm
 have bQ:∀ ao L a w,DInv Γ ops N st.length v s e L a w->unl ops.size L<=ao->wpAny Γ.P .any ops Q ao L a w:=by
  intro ao;induction ao with
  | zero=>
   intro L a w hi hu;have ap:∀ i,i<ops.size->L.getD i false=true:=by
    intro i ag;cases hb:L.getD i false with
    | true=>rfl
    | false=>have:i∈(List.range ops.size).filter λi=>!L.getD i false:=List.mem_filter.2 ⟨List.mem_range.2 ag,by rw [hb];rfl⟩;have:=List.length_pos_of_mem this;unfold unl at hu;omega
   refine ⟨?_,bb L a w hi ap⟩;cases hr:Region.ready .any ops L with
   | nil=>rfl
   | cons i r=>
    have hm:i∈Region.ready .any ops L:=by rw [hr];simp
    obtain ⟨I,o,ho,_⟩:=mem_ready.1 hm;have ag:i<ops.size:=(Array.getElem?_eq_some_iff.1 ho).1;have:=ap i ag;have aA:i<L.size:=by rw [hi.size];exact ag
    simp [aA] at this I;rw [this] at I;cases I
  | succ ao ih=>
   intro L a w hi hu;refine ⟨λhr=>bb L a w hi (a3 L hi.size hr),λj hj=>?_⟩;obtain ⟨cb,o,ho,bi⟩:=mem_ready.1 hj;have ag:j<ops.size:=(Array.getElem?_eq_some_iff.1 ho).1;have ab:j<L.size:=by rw [hi.size];exact ag
   have aQ:L.getD j false=false:=by simpa [ab] using cb
   have bx:∀ i,Anc ops i j->L.getD i false=true:=λi ha=>axd hi.down ha (λo' au x hx hb=>by rw [ho] at au;cases au;exact bi x hx hb);have b4:∀ i,Anc ops j i->L.getD i false=false:=λi ha=>by
    cases hb:L.getD i false with
    | false=>rfl
    | true=>have:=axd hi.down ha (hi.down i hb);rw [aQ] at this;cases this
   have aw:∀ i,(mkDI ops).cmp i j=true->i≠j->(i<j/\L.getD i false=true)\/(j<i/\L.getD i false=false):=by
    intro i hc J;unfold DI.cmp at hc;cases hb:Nat.beq i j with
    | true=>exact absurd (Aa hb) J
    | false=>
     rw [hb] at hc;simp only [Ah] at hc;cases aZ:Nat.blt i j with
     | true=>rw [aZ] at hc;obtain ⟨I,O⟩:=aqy hc;exact Or.inl ⟨I,bx i O⟩
     | false=>rw [aZ] at hc;obtain ⟨I,O⟩:=aqy hc;exact Or.inr ⟨I,b4 i O⟩
   obtain ⟨k,σ,aH,aI,al,a1,ai,hr⟩:=hi.k;have cc:j<=N:=by
    rcases Nat.lt_or_ge N j with h | h
    ·rcases hk with ⟨bn,_⟩ | ⟨o',sp,st',au,hp,_⟩
     ·omega
     ·have I:=ad1 hp.last j o (by simpa [mkDI] using ho);simp only [Nat.zero_add,Bd] at I;rcases I with I | I
      ·have:=Aw I;omega
      ·have:=hi.lt N (bx N (aqy I).2);omega
    ·exact h
   have bV:∀ t i,ace t ops.toList 0=some i->i≠j->(mkDI ops).cmp i j=true->E j t=envL ops v e L t:=by
    intro t i hw J hc;rw [hE j cc];unfold envL;simp only [hw];rcases aw i hc J with ⟨I,O⟩ | ⟨I,O⟩
    ·rw [if_pos I,if_pos O]
    ·rw [if_neg (by omega),if_neg (by rw [O];decide)]
   have af:∀ t,(mkDI ops).mask j (E j) t=.undef\/(mkDI ops).mask j (E j) t=envL ops v e L t:=by
    intro t;unfold DI.mask;show (match ace t ops.toList 0 with | some i=>(bif (mkDI ops).cmp i j then E j t else .undef) | none=>E j t)=_\/(match ace t ops.toList 0 with | some i=>(bif (mkDI ops).cmp i j then E j t else .undef) | none=>E j t)=_;cases hw:ace t ops.toList 0 with
    | none=>refine Or.inr ?_;simp only;rw [hE j (by omega)];unfold envL;simp only [hw]
    | some i=>
     simp only;cases hc:(mkDI ops).cmp i j with
     | false=>exact Or.inl rfl
     | true=>
      refine Or.inr ?_;simp only [Af];by_cases J:i=j
      ·subst J;rw [hE i (by omega)];unfold envL;simp only [hw];rw [if_neg (by omega),if_neg (by rw [aQ];decide)]
      ·exact bV t i hw J hc
   have aj:(mkDI ops).isA j=true->∀ i,aoc ops i->i≠j->(i<j/\L.getD i false=true)\/(j<i/\L.getD i false=false):=by intro hA i ⟨oi,ae,Z⟩ J;have:=ad1 hA i oi (by simpa [mkDI] using ae);simp only [Nat.zero_add,Z,A3,Bool.false_or] at this;exact aw i this J
   have bX:(mkDI ops).isN j=true->∀ i,NUpd ops i->i≠j->(i<j/\L.getD i false=true)\/(j<i/\L.getD i false=false):=by intro hA i ⟨oi,ae,Z,a7⟩ J;have:=ad1 hA i oi (by simpa [mkDI] using ae);simp only [Nat.zero_add,Z,a7,Az,Bool.and_self,A3,Bool.false_or] at this;exact aw i this J
   have H:∀ i,aew ops i->aoc ops i:=λi ⟨o,I,O⟩=>⟨o,I,aoq O⟩;have ah:∀ i,NUpd ops i->aoc ops i:=λi ⟨o,I,O,_⟩=>⟨o,I,O⟩;have bK:∀ i,k<=i->aew ops i->L.getD i false=true->∀ i',k<=i'->i'<i->¬NUpd ops i':=by
    intro i I ⟨oi,ae,a7⟩ z i' h4 h5 ak;obtain ⟨hA,_⟩:=(aa i oi (hi.lt i z) ae).1.upd (aoq a7);rw [a7] at hA;obtain ⟨bR,bg,bk,bl⟩:=ak;have:=ad1 hA i' bR (by simpa [mkDI] using bg);simp only [Nat.zero_add,bk,bl,Az,Bool.and_self,A3,Bool.false_or] at this;unfold DI.cmp at this;cases hb:Nat.beq i' i with
    | true=>have:=Aa hb;omega
    | false=>
     rw [hb] at this;simp only [Ah] at this;have aA:Nat.blt i' i=true:=by show Nat.ble (i'+1) i=true;rw [Nat.ble_eq];omega
     rw [aA] at this;simp only [Af] at this;obtain ⟨_,bD⟩:=aqy this;have h6:=axd hi.down bD (hi.down i z);have:=al i' h4 ⟨bR,bg,bk,bl⟩;rw [h6] at this;cases this
   rcases Nat.lt_or_ge j N with bI | cw;case inr=>
    have:j=N:=by omega
    subst this
    rcases hk with ⟨bn,_⟩ | ⟨o',sp,st',au,hp,bY⟩
    ·omega
    ·have be:ops[j]?=some o':=by simpa using au
     rw [ho] at be;cases be;have hA:=hp.isA;have aN:k<=j:=aH;have bz:σ=s j:=afk aP aD ai aN (by omega) (λi I O ak=>by
      rcases aj hA i (ah i ak) (by omega) with ⟨_,z⟩ | ⟨z,_⟩
      ·have:=al i I ak;rw [this] at z;cases z
      ·omega) (λi I O he=>by
      rcases aj hA i (H i he) (by omega) with ⟨_,z⟩ | ⟨z,_⟩
      ·exact z
      ·omega) (λi I he=>by
      have J:i≠j:=λhh=>by subst hh;obtain ⟨o',q1,q3⟩:=he;rw [ho] at q1;cases q1;rw [hp.ext] at q3;cases q3
      rcases aj hA i (H i he) J with ⟨z,_⟩ | ⟨_,z⟩
      ·omega
      ·exact z)
     rw [bz] at hr;have a4:=hp.step;rw [<-aW j (Nat.le_refl _)] at a4;exact atn hP ho a4 af hr _ Q (λv' a' w' cp=>hX _ _ v' a' w' bY cp)
   obtain ⟨aE,cy⟩:=aa j o bI ho;have bN:(L.setIfInBounds j true).size=ops.size:=by simp [hi.size]
   have bH:∀ g M t,o.guard=some (g,M)->(ops[g]?).bind (·.dst)=some t->L.getD g false=true/\∃ og,ops[g]?=some og/\og.dst=some t:=by
    intro g M t hg ht;have:=aE.gd;unfold gdOk at this;rw [hg] at this;obtain ⟨I,O⟩:=aqy this;cases a2:ops[g]? with
    | none=>rw [a2] at ht;cases ht
    | some og=>rw [a2] at ht;exact ⟨bx g O,og,rfl,ht⟩
   have bm:∀ g og t,L.getD g false=true->ops[g]?=some og->og.dst=some t->o.dst≠some t:=by intro g og t hg a2 ht hd;have I:=a6 g og t a2 ht;have O:=a6 j o t ho hd;rw [I] at O;cases O;rw [aQ] at hg;cases hg
   have aC:∀ a9 k',k'<=N->Part ops s (L.setIfInBounds j true) k' a9->st.length<=(s k').length->(∀ i,i<k'->aoc ops i->(L.setIfInBounds j true).getD i false=true)->(∀ i,k'<=i->NUpd ops i->(L.setIfInBounds j true).getD i false=false)->
    (∀ u M x,v j=.gd u M x->∃ g,o.guard=some (g,M)/\(ops[g]?).bind (·.dst)=some u)->∀ a' w',Rel Γ (put (envL ops v e L) o.dst (v j)) a9 a' w'->wpAny Γ.P .any ops Q ao (L.setIfInBounds j true) a' w':=by
    intro a9 k' cd a4 ci I O aG a' w' aK
    have bc:put (envL ops v e L) o.dst (v j)=envL ops v e (L.setIfInBounds j true):=by
     funext t;cases hd:o.dst with
     | none=>
      show envL ops v e L t=_;unfold envL;cases hw:ace t ops.toList 0 with
      | none=>rfl
      | some i=>
       simp only;obtain ⟨oi,q1,q2⟩:=aB t i hw;have:i≠j:=λhh=>by subst hh;rw [ho] at q1;cases q1;rw [hd] at q2;cases q2
       rw [abi ab,if_neg this]
     | some d=>
      simp only [put,Env.set];cases hb:Nat.beq t d with
      | true=>have:=Aa hb;subst this;unfold envL;rw [a6 j o t ho hd];simp only [Af];rw [abi ab,if_pos rfl,if_pos rfl]
      | false=>
       simp only [Ah];unfold envL;cases hw:ace t ops.toList 0 with
       | none=>rfl
       | some i=>
        simp only;obtain ⟨oi,q1,q2⟩:=aB t i hw;have:i≠j:=λhh=>by subst hh;rw [ho] at q1;cases q1;rw [hd] at q2;cases q2;rw [Bi] at hb;cases hb
        rw [abi ab,if_neg this]
    refine ih _ _ _ ⟨bN,?_,?_,λi hl=>?_,k',a9,cd,I,O,ci,a4,by rw [<-bc];exact aK⟩ ?_
    ·intro i hl oi ae x hx hb;rw [abi ab] at hl ⊢;by_cases a8:x.on=j
     ·rw [if_pos a8]
     ·rw [if_neg a8];by_cases ad:i=j
      ·subst ad;rw [ho] at ae;cases ae;exact bi x hx hb
      ·rw [if_neg ad] at hl;exact hi.down i hl oi ae x hx hb
    ·intro t u M x hh;rw [<-bc] at hh;have aY:(∃ g o,L.getD g false=true/\ops[g]?=some o/\o.dst=some u)->∃ g o,(L.setIfInBounds j true).getD g false=true/\ops[g]?=some o/\o.dst=some u:=by
      intro ⟨g,og,q1,q2,q3⟩;refine ⟨g,og,?_,q2,q3⟩;rw [abi ab];split
      ·rfl
      ·exact q1
     cases hd:o.dst with
     | none=>rw [hd] at hh;exact aY (hi.gd t u M x hh)
     | some d=>
      rw [hd] at hh;simp only [put,Env.set] at hh;cases hb:Nat.beq t d with
      | true=>rw [hb] at hh;obtain ⟨g,q1,q2⟩:=aG u M x hh;obtain ⟨q3,og,q4,q5⟩:=bH g M u q1 q2;exact aY ⟨g,og,q3,q4,q5⟩
      | false=>rw [hb] at hh;exact aY (hi.gd t u M x hh)
    ·rw [abi ab] at hl;by_cases ad:i=j
     ·omega
     ·rw [if_neg ad] at hl;exact hi.lt i hl
    ·have cx:unl ops.size (L.setIfInBounds j true)<unl ops.size L:=by
      unfold unl;refine ax5 (j:=j) (λi hq=>?_) (by rw [aQ];rfl) (by rw [abi ab,if_pos rfl];rfl) (List.mem_range.2 ag);rw [abi ab] at hq;by_cases ad:i=j
      ·rw [if_pos ad] at hq;cases hq
      ·rw [if_neg ad] at hq;exact hq
     omega
   have ax:∀ d,o.dst=some d->au6 (envL ops v e L) d:=by intro d hd t u M x hh hu;subst hu;obtain ⟨g,og,q1,q2,q3⟩:=hi.gd t u M x hh;exact bm g og u q1 q2 q3 hd
   have bd:∀ g M t,o.guard=some (g,M)->(ops[g]?).bind (·.dst)=some t->o.dst≠some t:=λg M t hg ht=>by obtain ⟨q1,og,q2,q3⟩:=bH g M t hg ht;exact bm g og t q1 q2 q3
   cases hu:(mkDI ops).upd j o with
   | true=>
    obtain ⟨hA,cf,cg,_,a5⟩:=aE.upd hu;have aN:k<=j:=by
     rcases Nat.lt_or_ge j k with aA | b8
     ·have:=aI j aA ⟨o,ho,hu⟩;rw [aQ] at this;cases this
     ·exact b8
    cases hx:acu o.op with
    | true=>
     rw [hx] at hA;simp only [Af] at hA;obtain ⟨b6,b,cv,aM⟩:=aop hx a5;have ar:∀ i,k<=i->i<j->¬NUpd ops i:=λi I O ak=>by
      rcases bX hA i ak (by omega) with ⟨_,z⟩ | ⟨z,_⟩
      ·have:=al i I ak;rw [this] at z;cases z
      ·omega
     have av:∀ i,(L.setIfInBounds j true).getD i false=if i=j then true else L.getD i false:=λi=>abi ab
     have a8:aew ops j:=⟨o,ho,hx⟩;have fin:∀ bA ba,Rel Γ (envL ops v e L) bA a w->aob Γ.np bA (s j).length b ba->Part ops s (L.setIfInBounds j true) k ba->wpOp Γ.P ops Q j (λa' w'=>wpAny Γ.P .any ops Q ao (L.setIfInBounds j true) a' w') a w:=by
      intro bA ba cr cn aU;refine a7i hP hn ho b6 aM aE.dst af cr cn ax _ Q (λaG a' w' aK=>aC ba k aH aU a1 (λi ad Z=>?_) (λi ad Z=>?_) (λu M x hv=>absurd hv (aG u M x)) a' w' aK)
      ·rw [av];split
       ·rfl
       ·exact aI i ad Z
      ·rw [av];by_cases J:i=j
       ·subst J;obtain ⟨o',q1,_,q3⟩:=Z;rw [ho] at q1;cases q1;rw [hx] at q3;cases q3
       ·rw [if_neg J];exact al i ad Z
     rcases azg aP aD ai aN ag ar bK a8 cv aQ av with ⟨n,br,aU⟩ | ⟨br,aU⟩
     ·exact fin _ _ (azn n hr) (Or.inl ⟨br,rfl⟩) aU
     ·exact fin _ _ hr (Or.inr ⟨br,rfl,Nat.le_trans ck cf⟩) aU
    | false=>
     rw [hx] at hA;simp only [Ah] at hA;have bz:σ=s j:=afk aP aD ai aN (by omega) (λi I O ak=>by
      rcases aj hA i (ah i ak) (by omega) with ⟨_,z⟩ | ⟨z,_⟩
      ·have:=al i I ak;rw [this] at z;cases z
      ·omega) (λi I O he=>by
      rcases aj hA i (H i he) (by omega) with ⟨_,z⟩ | ⟨z,_⟩
      ·exact z
      ·omega) (λi I he=>by
      have J:i≠j:=λhh=>by subst hh;obtain ⟨o',q1,q3⟩:=he;rw [ho] at q1;cases q1;rw [hx] at q3;cases q3
      rcases aj hA i (H i he) J with ⟨z,_⟩ | ⟨_,z⟩
      ·omega
      ·exact z)
     rw [bz] at hr;refine an5 hP hn ho a5 aE.dst af hr ax bd _ Q (λaG a' w' aK=>aC (s (j+1)) (j+1) (by omega) ⟨Nat.le_refl _,λ_ _=>rfl,λi b I O z _=>?_,λp I O=>by omega,Or.inl rfl⟩ cg (λi ad Z=>?_) (λi ad Z=>?_) aG a' w' aK)
     ·rw [abi ab,if_neg (by omega)] at z;rcases aj hA i (H i O) (by omega) with ⟨h4,_⟩ | ⟨_,h4⟩
      ·omega
      ·rw [h4] at z;cases z
     ·rw [abi ab];by_cases J:i=j
      ·rw [if_pos J]
      ·rw [if_neg J];rcases aj hA i Z J with ⟨_,z⟩ | ⟨z,_⟩
       ·exact z
       ·omega
     ·rw [abi ab,if_neg (by omega)];exact al i (by omega) Z
   | false=>
    have aJ:¬aoc ops j:=λ⟨o',au,bO⟩=>by rw [ho] at au;cases au;rw [hu] at bO;cases bO
    have bS:(mkDI ops).isA j=true->σ=s j:=by
     intro hA;rcases Nat.le_total k j with af | af
     ·exact afk aP aD ai af (by omega) (λi I O ak=>by
       rcases aj hA i (ah i ak) (by omega) with ⟨_,z⟩ | ⟨z,_⟩
       ·have:=al i I ak;rw [this] at z;cases z
       ·omega) (λi I O he=>by
       rcases aj hA i (H i he) (by omega) with ⟨_,z⟩ | ⟨z,_⟩
       ·exact z
       ·omega) (λi I he=>by
       have J:i≠j:=λhh=>by subst hh;exact aJ (H i he)
       rcases aj hA i (H i he) J with ⟨z,_⟩ | ⟨_,z⟩
       ·omega
       ·exact z)
     ·have e1:σ=s k:=afk aP aD ai (Nat.le_refl _) (Nat.le_trans aH aR) (λi I O=>by omega) (λi I O=>by omega) (λi I he=>by
       have J:i≠j:=λhh=>by subst hh;exact aJ (H i he)
       rcases aj hA i (H i he) J with ⟨z,_⟩ | ⟨_,z⟩
       ·omega
       ·exact z)
      rw [e1];refine (bv j k af (Nat.le_trans aH aR) (λi I O Z=>?_)).symm;have J:i≠j:=λhh=>by subst hh;exact aJ Z
      rcases aj hA i Z J with ⟨z,_⟩ | ⟨_,z⟩
      ·omega
      ·have:=aI i O Z;rw [this] at z;cases z
    have bT:(mkDI ops).isA j=false->σ.take (bif (mkDI ops).isB j then st.length else 0)=(s j).take (bif (mkDI ops).isB j then st.length else 0):=by
     intro _;cases hB:(mkDI ops).isB j with
     | false=>simp
     | true=>
      simp only [Af];have e0:σ.take st.length=(s k).take st.length:=by
       apply List.ext_getElem?;intro i;by_cases h:i<st.length
       ·rw [List.getElem?_take_of_lt h,List.getElem?_take_of_lt h];exact ai.pre i (by omega)
       ·rw [A4 (by simp;omega),A4 (by simp;omega)]
      rw [e0];have aM:∀ i oi,ops[i]?=some oi->(mkDI ops).upd i oi=true->i≠j->(acu oi.op||(mkDI ops).soft oi)=false->(i<j/\L.getD i false=true)\/(j<i/\L.getD i false=false):=by intro i oi ae Z J hx;have:=ad1 hB i oi (by simpa [mkDI] using ae);simp only [Nat.zero_add,Z,hx,Az,Bool.and_self,A3,Bool.false_or] at this;exact aw i this J
      rcases Nat.le_total k j with af | af
      ·refine aX k j af (by omega) (λi oi I O ae Z=>?_);cases hx:(acu oi.op||(mkDI ops).soft oi) with
       | true=>simpa [Bd] using hx
       | false=>
        rcases aM i oi ae Z (by omega) hx with ⟨_,z⟩ | ⟨z,_⟩
        ·simp only [Bool.or_eq_false_iff] at hx;have:=al i I ⟨oi,ae,Z,hx.1⟩;rw [this] at z;cases z
        ·omega
      ·refine (aX j k af aH (λi oi I O ae Z=>?_)).symm;have J:i≠j:=λhh=>by subst hh;exact aJ ⟨oi,ae,Z⟩
       cases hx:(acu oi.op||(mkDI ops).soft oi) with
       | true=>simpa [Bd] using hx
       | false=>
        rcases aM i oi ae Z J hx with ⟨z,_⟩ | ⟨_,z⟩
        ·omega
        ·have:=aI i O ⟨oi,ae,Z⟩;rw [this] at z;cases z
    have av:∀ i,(L.setIfInBounds j true).getD i false=if i=j then true else L.getD i false:=λi=>abi ab
    have bu:∀ i,aew ops i->i≠j:=λi he hh=>by subst hh;exact aJ (H i he)
    have bL:Part ops s (L.setIfInBounds j true) k σ:=by
     refine ⟨ai.len,ai.pre,λi b I O z h4=>?_,λp I O=>?_,?_⟩
     ·rw [av,if_neg (bu i O)] at z;exact ai.fil i b I O z h4
     ·rcases ai.hol p I O with h | ⟨i,q1,q2,q3,q4⟩
      ·exact Or.inl h
      ·exact Or.inr ⟨i,q1,q2,by rw [av,if_neg (bu i q2)];exact q3,q4⟩
     ·rcases ai.top with h | ⟨i,q1,q2,q3,q4⟩
      ·exact Or.inl h
      ·exact Or.inr ⟨i,q1,q2,by rw [av,if_neg (bu i q2)];exact q3,q4⟩
    have bw:StepV C ops o ((mkDI ops).mask j (E j)) σ (v j) σ:=by
     cases bp:lmOf (mkDI ops) st.length j o ((mkDI ops).mask j (E j)) (LK j) with
     | none=>exact (aE.non hu).2 σ bS bT bp
     | some p=>
      obtain ⟨b9,⟨x,cl,ha⟩,ay,ce,cm,cE,cq,bE⟩:=aqw bp;obtain ⟨bo,bJ⟩:=aE.lm p hu bp;have cz:st.length<=(s k).length:=a1;have e0:σ[p.k]?=(s k)[p.k]?:=ai.pre p.k (by omega);have bh:∀ i oi,i<N->ops[i]?=some oi->(mkDI ops).upd i oi=true->(acu oi.op||(mkDI ops).soft oi)=true->acj C.P p.T (s (i+1)) p.a=acj C.P p.T (s i) p.a:=by
       intro i oi hi ae Z hx;obtain ⟨_,O,_,h4,z⟩:=(aa i oi hi ae).1.upd Z;have ht:(s (i+1)).take st.length=(s i).take st.length:=by
        cases hb:acu oi.op with
        | true=>exact auf hb z O
        | false=>rw [hb] at hx;exact ark (h4 hx) z
       have e1:(s (i+1))[p.k]?=(s i)[p.k]?:=by have:=congrArg (λl=>l[p.k]?) ht;simpa [List.getElem?_take_of_lt ce] using this
       exact afy ay e1
      have bP:acj C.P p.T (s k) p.a=.val true (v j):=by
       rcases Nat.le_total k j with aS | aS
       ·have:∀ q,k<=q->q<=j->acj C.P p.T (s k) p.a=acj C.P p.T (s q) p.a:=by
         intro q cD;induction q with
         | zero=>
          intro _;have:k=0:=by omega
          subst this;rfl
         | succ q aL=>
          intro hq;by_cases he:k=q+1
          ·subst he;rfl
          ·rw [aL (by omega) (by omega)];have am:ops[q]?=some ops[q]:=Array.getElem?_eq_getElem (by omega);cases an:(mkDI ops).upd q ops[q] with
           | false=>rw [((aa q _ (by omega) am).1.non an).1]
           | true=>
            have aq:=ad1 bE q ops[q] (by simpa [mkDI] using am);simp only [Nat.zero_add,an,A3,Bool.false_or,Bd] at aq;cases hb:acu ops[q].op with
            | true=>exact (bh q _ (by omega) am an (by rw [hb];rfl)).symm
            | false=>
             rcases aq with (aq | aq) | aq
             ·have:=Aw aq;omega
             ·rcases aw q aq (by omega) with ⟨_,z⟩ | ⟨z,_⟩
              ·have:=al q (by omega) ⟨_,am,an,hb⟩;rw [this] at z;cases z
              ·omega
             ·obtain ⟨g,b7,a0⟩:=List.any_eq_true.1 aq;simp only [Ai] at a0;obtain ⟨q',o',_,au,cA,_,b5⟩:=bC j (by omega) g b7 a0.1.1;have cF:=Aa a0.1.2;have:q'=q:=by omega
              subst this;rw [am] at au;cases au;have bf:=a0.2;rw [b5] at bf;obtain ⟨_,O,_,_,h5⟩:=(aa q' _ (by omega) am).1.upd an;exact (afy ay (ai4 (k:=p.k) (by omega) h5 bf)).symm
        rw [this j aS (Nat.le_refl _)];exact bo
       ·have:∀ q,j<=q->q<=k->acj C.P p.T (s q) p.a=.val true (v j):=by
         intro q cC;induction q with
         | zero=>
          intro _;have:j=0:=by omega
          subst this;exact bo
         | succ q aL=>
          intro hq;by_cases he:j=q+1
          ·subst he;exact bo
          ·have aL:=aL (by omega) (by omega);have am:ops[q]?=some ops[q]:=Array.getElem?_eq_getElem (by omega);cases an:(mkDI ops).upd q ops[q] with
           | false=>rw [((aa q _ (by omega) am).1.non an).1];exact aL
           | true=>
            have J:q≠j:=λhh=>by subst hh;exact aJ ⟨_,am,an⟩
            have ch:({ p with v:=v j }:LM)∈LK q:=bW _ (j+1) q (by omega) (by omega) bJ;cases aq:(mkDI ops).cmp j q with
            | true=>
             have bF:(mkDI ops).cmp q j=true:=by
                 revert aq;unfold DI.cmp;have bZ:Nat.beq j q=false:=by rw [<-Bool.not_eq_true,Nat.beq_eq];omega
                 have aZ:Nat.beq q j=false:=by rw [<-Bool.not_eq_true,Nat.beq_eq];omega
                 have b0:Nat.blt j q=true:=by show Nat.ble (j+1) q=true;rw [Nat.ble_eq];omega
                 have b1:Nat.blt q j=false:=by
                  cases b2:Nat.blt q j with
                  | false=>rfl
                  | true=>have:q+1<=j:=Aw b2;omega
                 rw [bZ,aZ,b0,b1];exact id
             rcases aw q bF J with ⟨z,_⟩ | ⟨_,z⟩
             ·omega
             ·have:=aI q (by omega) ⟨_,am,an⟩;rw [this] at z;cases z
            | false=>
             have bG:=(aa q _ (by omega) am).1;rcases bG.ok an _ ch cq (by simpa [cm] using aq) with z | z | z
             ·rw [bh q _ (by omega) am an z];exact aL
             ·obtain ⟨_,O,_,_,h5⟩:=bG.upd an;rw [afy ay (ai4 (k:=p.k) (by omega) h5 z)];exact aL
             ·exact z
        exact this k aS (Nat.le_refl _)
      refine .val b9 ?_;rw [cl];show acj C.P p.T σ (opd ((mkDI ops).mask j (E j)) [] x)=_;rw [<-ha,afy ay e0];exact bP
    refine an5 hP hn ho bw aE.dst af hr ax bd _ Q (λaG a' w' aK=>aC σ k aH bL a1 (λi ad Z=>?_) (λi ad Z=>?_) aG a' w' aK)
    ·rw [abi ab];split
     ·rfl
     ·exact aI i ad Z
    ·rw [abi ab];by_cases J:i=j
     ·subst J;exact absurd (ah i Z) aJ
     ·rw [if_neg J];exact al i ad Z
 refine bQ _ _ _ _ ⟨by simp,λj hj=>absurd hj (by rw [afp];decide),λt u M x hh=>?_,λi hl=>absurd hl (by rw [afp];decide),0,st,by omega,λi hi=>by omega,λi _ _=>afp _ _,by rw [aV];exact Nat.le_refl _,⟨by rw [aV];exact Nat.le_refl _,λp _=>by rw [aV],λi b _ _ z _=>absurd z (by rw [afp];decide),λp I O=>by rw [aV] at I;omega,Or.inl (by rw [aV])⟩,?_⟩ (by unfold unl;exact Nat.le_trans (List.length_filter_le _ _) (by simp))
 ·have:envL ops v e (Array.replicate ops.size false) t=e t:=by
   unfold envL;split
   ·rw [afp,if_neg (by decide)]
   ·rfl
  rw [this] at hh;exact absurd hh (cj t u M x)
 ·have:envL ops v e (Array.replicate ops.size false)=e:=by
   funext t;unfold envL;split
   ·rw [afp,if_neg (by decide)]
   ·rfl
  rw [this];exact bj
end
end Go.Ab
