/- One operation of a region, whatever its order. -/
import Derived.Test.YtodichgnoiaanaaGreatAbExec
set_option linter.unusedVariables false
set_option linter.unusedSimpArgs false
set_option linter.unnecessarySimpa false
namespace Go.Ab
open Go
def ρT (e:Env) (gs:List (Nat×Bool)) (op:Op) (w:Bool):Operand->SV:=match op with | .pick (.tmp u) _ _=>opd e ((u,w)::gs) | _=>opd e []
inductive StepV (C:Cfg) (ops:Array Oper) (o:Oper) (e:Env) (st:List BX):SV->List BX->Prop
 | val {v:SV}:o.guard=none->ac C.P o.op (opd e []) (ρT e [] o.op true) (ρT e [] o.op false) st=.val true v->StepV C ops o e st v st
 | upd {v:SV}{st':List BX}:o.guard=none->ac C.P o.op (opd e []) (ρT e [] o.op true) (ρT e [] o.op false) st=.upd true v st'->StepV C ops o e st v st'
 | call {f:FuncId}{args as rs rs':List SV}{sub sub' bs:List BX}:o.guard=none->ac C.P o.op (opd e []) (ρT e [] o.op true) (ρT e [] o.op false) st=.call f args->
  renL st (ab8 (aap st args)) (fun _=>0) args=some as->agb st (ab8 (aap st args)) (fun _=>0) (aap st args)=some sub->Meets C.P f as sub rs sub'->ad8 st (aap st args) rs sub'=some (rs',bs)->(∀ s,rs'≠[.pan s])->StepV C ops o e st (adf rs') (abi (aap st args) bs st)
 | gval {j t:Nat}{want b c:Bool}{v:SV}:o.guard=some (j,want)->(ops[j]?).bind (·.dst)=some t->gval e 8 t want=some b->
  ac C.P o.op (opd e [(t,want)]) (ρT e [(t,want)] o.op true) (ρT e [(t,want)] o.op false) st=.val c v->imp b c=true->StepV C ops o e st (.gd t want v) st
 | gcall {j t:Nat}{want b:Bool}{f:FuncId}{args as rs':List SV}:o.guard=some (j,want)->(ops[j]?).bind (·.dst)=some t->gval e 8 t want=some b->
  ac C.P o.op (opd e [(t,want)]) (ρT e [(t,want)] o.op true) (ρT e [(t,want)] o.op false) st=.call f args->aap st args=[]->renL st (ab8 []) (fun _=>0) args=some as->
  (b=true->∃ rs sub',Meets C.P f as [] rs sub'/\aev rs sub'=some rs')->(∀ s,rs'≠[.pan s])->StepV C ops o e st (.gd t want (adf rs')) st
 | gcallU {j t:Nat}{want:Bool}{f:FuncId}{args as rs rs':List SV}{sub sub' bs:List BX}:o.guard=some (j,want)->(ops[j]?).bind (·.dst)=some t->gval e 8 t want=some true->
  ac C.P o.op (opd e [(t,want)]) (ρT e [(t,want)] o.op true) (ρT e [(t,want)] o.op false) st=.call f args->
  renL st (ab8 (aap st args)) (fun _=>0) args=some as->agb st (ab8 (aap st args)) (fun _=>0) (aap st args)=some sub->Meets C.P f as sub rs sub'->ad8 st (aap st args) rs sub'=some (rs',bs)->(∀ s,rs'≠[.pan s])->StepV C ops o e st (.gd t want (adf rs')) (abi (aap st args) bs st)
 | gskip {j t:Nat}{want:Bool}{f:FuncId}{args:List SV}{x:SV}:o.guard=some (j,want)->(ops[j]?).bind (·.dst)=some t->gval e 8 t want=some false->
  ac C.P o.op (opd e [(t,want)]) (ρT e [(t,want)] o.op true) (ρT e [(t,want)] o.op false) st=.call f args->StepV C ops o e st (.gd t want x) st
def a4r (C:Cfg) (o:Oper) (e:Env) (st:List BX) (s:SV) (st':List BX):Prop:=
 o.guard=none/\∃ f args as rs sub sub' bs,ac C.P o.op (opd e []) (ρT e [] o.op true) (ρT e [] o.op false) st=.call f args/\renL st (ab8 (aap st args)) (fun _=>0) args=some as/\agb st (ab8 (aap st args)) (fun _=>0) (aap st args)=some sub/\
  Meets C.P f as sub rs sub'/\ad8 st (aap st args) rs sub'=some ([.pan s],bs)/\st'=abi (aap st args) bs st
theorem a3g {R:Type}{C:Cfg} (hC:aai C) {ops:Array Oper}{o:Oper}{e:Env}{st:List BX}{K X:SV->List BX->Option R}{r:R} (h:opV C ops o e st K X=some r):(∃ v st',StepV C ops o e st v st'/\K v st'=some r)∨∃ s st',a4r C o e st s st'/\X s st'=some r:=by
 unfold opV at h
 split at h
 ·rename_i hg
  split at h
  ·cases h
  ·rename_i c v hac
   cases c with
   | false=>cases h
   | true=>exact Or.inl ⟨v,st,.val hg hac,h⟩
  ·rename_i c v st' hac
   cases c with
   | false=>cases h
   | true=>exact Or.inl ⟨v,st',.upd hg hac,h⟩
  ·cases h
  ·rename_i f args hac
   split at h
   ·rename_i as sub has hsub
    obtain ⟨rs,sub',hK,hm⟩:=(hC R true f as sub _ r h).1 rfl
    split at hK
    case h_2=>cases hK
    rename_i rs' bs hback
    rcases ad3 hK with ⟨s,rfl,hK⟩ | ⟨hne,hK⟩
    ·exact Or.inr ⟨s,_,⟨hg,f,args,as,rs,sub,sub',bs,hac,has,hsub,hm,hback,rfl⟩,hK⟩
    ·exact Or.inl ⟨_,_,.call hg hac has hsub hm hback hne,hK⟩
   ·cases h
 ·rename_i j want hg
  split at h
  ·cases h
  ·rename_i t ht
   split at h
   ·cases h
   ·rename_i b hb
    split at h
    ·rename_i c v hac
     cases hi:imp b c with
     | false=>rw [hi] at h;cases h
     | true=>rw [hi] at h;exact Or.inl ⟨_,_,.gval hg ht hb hac hi,h⟩
    ·rename_i f args hac
     split at h
     ·rename_i as hks has
      obtain ⟨h1,rs0,sub0,hK0⟩:=hC R b f as [] _ r h
      cases b with
      | true=>
       obtain ⟨rs,sub',hK,hm⟩:=h1 rfl
       split at hK
       case h_2=>cases hK
       rename_i rs' hback
       obtain ⟨hne,hK⟩:=ac8 hK
       exact Or.inl ⟨_,_,.gcall hg ht hb hac hks has (fun _=>⟨rs,sub',hm,hback⟩) hne,hK⟩
      | false=>
       split at hK0
       case h_2=>cases hK0
       obtain ⟨hne,hK0⟩:=ac8 hK0
       exact Or.inl ⟨_,_,.gcall hg ht hb hac hks has (fun hb=>by cases hb) hne,hK0⟩
     ·cases b with
      | false=>exact Or.inl ⟨_,_,.gskip hg ht hb hac,h⟩
      | true=>
       simp only [cond_true] at h
       split at h
       ·rename_i as sub has hsub
        obtain ⟨rs,sub',hK,hm⟩:=(hC R true f as sub _ r h).1 rfl
        split at hK
        case h_2=>cases hK
        rename_i rs' bs hback
        obtain ⟨hne,hK⟩:=ac8 hK
        exact Or.inl ⟨_,_,.gcallU hg ht hb hac has hsub hm hback hne,hK⟩
       ·cases h
    ·cases h
theorem awh {P:Program}{st:List BX}{T:TypeId}{x y:SV}{c:Bool}{v:SV}:acw P st T x y≠.val c v:=by
 intro h
 unfold acw at h
 simp only [cond_eq_ite] at h
 repeat' split at h
 all_goals cases h
theorem asx {P:Program}{st:List BX}{T:TypeId}{x y:SV}{f:FuncId}{as:List SV}:acw P st T x y≠.call f as:=by
 intro h
 unfold acw at h
 simp only [cond_eq_ite] at h
 repeat' split at h
 all_goals cases h
theorem am4 {P:Program}{st:List BX}{T:TypeId}{x y:SV}{c:Bool}{v:SV}:adc P T st x y≠.val c v:=by
 intro h
 unfold adc at h
 simp only [cond_eq_ite] at h
 repeat' split at h
 all_goals cases h
theorem aup {P:Program}{st:List BX}{T:TypeId}{x y:SV}{c:Bool}{v:SV}:ads P T st x y≠.val c v:=by
 intro h
 unfold ads at h
 split at h
 ·split at h
  ·split at h
   ·simp only [cond_eq_ite] at h
    split at h
    ·cases h
    ·exact am4 h
   ·cases h
  ·exact am4 h
 ·exact am4 h
theorem aro {P:Program}{st:List BX}{T:TypeId}{x y:SV}{c:Bool}{v:SV}:ab4 P T st x y≠.val c v:=by
 intro h
 unfold ab4 at h
 simp only [cond_eq_ite] at h
 repeat' split at h
 all_goals cases h
theorem ang {P:Program}{st:List BX}{T:TypeId}{x y z:SV}{c:Bool}{v:SV}:abu P T st x y z≠.val c v:=by
 intro h
 unfold abu at h
 simp only [cond_eq_ite] at h
 repeat' split at h
 all_goals cases h
theorem ai7 {P:Program}{st:List BX}{T:TypeId}{x y z:SV}{c:Bool}{v:SV}:abp P T st x y z≠.val c v:=by
 intro h
 unfold abp at h
 split at h
 ·rename_i K E _
  cases hb:(keyT P K&&isOf P K y&&isOf P E z) with
  | false=>rw [hb] at h;cases h
  | true=>
   rw [hb] at h
   simp only [cond_true] at h
   split at h
   ·split at h
    ·rename_i K' E' es _
     cases hb2:(Nat.beq K K'&&Nat.beq E E')<;>rw [hb2] at h<;>cases h
    ·cases h
   ·cases h
 ·cases h
theorem att {P:Program}{st:List BX}{T:TypeId}{r:Option Operand}{c:Bool}{v:SV}:adk P T r st≠.val c v:=by
 intro h
 unfold adk at h
 split at h<;>cases h
theorem ale {P:Program}{op:Op}{ρ ρt ρf:Operand->SV}{st:List BX}{m:Nat}{c:Bool}{v:SV} (h:ac P op ρ ρt ρf (st.take m)=.val c v):ac P op ρ ρt ρf st=.val c v:=by
 have hget:∀ (k:Nat) (b:BX),(st.take m)[k]?=some b->st[k]?=some b:=by
  intro k b hk
  rw [List.getElem?_take] at hk
  split at hk
  ·exact hk
  ·cases hk
 have hat:∀ (k g:Nat) (E:TypeId) (xs:List PV),af8 (st.take m) k g E=some xs->af8 st k g E=some xs:=by
  intro k g E xs h
  unfold af8 at h ⊢
  cases hk:(st.take m)[k]? with
  | some b=>rw [hk] at h;rw [hget _ _ hk];exact h
  | none=>rw [hk] at h;cases h
 have his:∀ (k g:Nat),adv (st.take m) k g=true->adv st k g=true:=by
  intro k g h
  unfold adv at h ⊢
  cases hk:(st.take m)[k]? with
  | some b=>rw [hk] at h;rw [hget _ _ hk];exact h
  | none=>rw [hk] at h;cases h
 cases op with
 | nilCheck x=>
  simp only [ac] at h ⊢
  generalize ρ x=y at h ⊢
  cases y with
  | aref k g i E p T=>
   simp only at h ⊢
   cases hb:adv (st.take m) k g with
   | true=>rw [hb] at h;rw [his _ _ hb];exact h
   | false=>rw [hb] at h;cases h
  | _=>exact h
 | fieldAddr S x i=>
  simp only [ac,aci] at h ⊢
  generalize ρ x=y at h ⊢
  cases y with
  | aref k g j E p T=>
   split at h
   ·split at h
    ·rename_i f hf
     cases h0:Nat.beq (P.cellsOf f.type) 0 with
     | true=>rw [h0] at h;cases h
     | false=>
      rw [h0] at h
      simp only [cond_false] at h ⊢
      cases hb:adv (st.take m) k g with
      | true=>rw [hb] at h;rw [his _ _ hb];exact h
      | false=>rw [hb,Bool.and_false] at h;cases h
    ·cases h
   ·cases h
  | _=>exact h
 | indexAddr T x i=>
  simp only [ac,acj] at h ⊢
  cases h0:alh P T (ρ x) (ρ i) with
  | some r=>rw [h0] at h;exact h
  | none=>
   rw [h0] at h
   simp only at h ⊢
   cases h1:afy P T (st.take m) (ρ x) (ρ i) with
   | some r=>
    rw [h1] at h
    have:afy P T st (ρ x) (ρ i)=some r:=by
     unfold afy at h1 ⊢
     split at h1
     ·split at h1
      ·rename_i xs h2;simp only [hat _ _ _ _ h2];exact h1
      ·cases h1
     ·cases h1
    rw [this];exact h
   | none=>
    rw [h1] at h
    simp only at h
    have:afy P T st (ρ x) (ρ i)=none:=by
     unfold afy
     split
     ·rename_i E k g E' kk n e1 e2 e3
      rw [e2] at h
      simp [al8] at h
     ·rfl
    rw [this];exact h
 | load T a=>
  simp only [ac,aep] at h ⊢
  generalize ρ a=x at h ⊢
  cases x with
  | ref k path T'=>
   simp only at h ⊢
   cases hk:(st.take m)[k]? with
   | some b=>rw [hk] at h;rw [hget _ _ hk];exact h
   | none=>rw [hk] at h;cases hb:(Nat.beq T T'&&(P.underlying T).isSome)<;>rw [hb] at h<;>cases h
  | eref k i E=>
   simp only at h ⊢
   cases hk:(st.take m)[k]? with
   | some b=>rw [hk] at h;rw [hget _ _ hk];exact h
   | none=>rw [hk] at h;cases hb:(Nat.beq T E&&aa1 P E)<;>rw [hb] at h<;>cases h
  | aref k g i E path T'=>
   simp only at h ⊢
   cases hk:af8 (st.take m) k g E with
   | some xs=>rw [hk] at h;rw [hat _ _ _ _ hk];exact h
   | none=>rw [hk] at h;cases hb:(Nat.beq T T'&&aa1 P E&&aa1 P T)<;>rw [hb] at h<;>cases h
  | _=>exact h
 | convert s d x=>
  simp only [ac] at h ⊢
  unfold ael at h ⊢
  generalize ρ x=y at h ⊢
  cases y with
  | asl k lo n E=>
   simp only at h ⊢
   cases hk:(st.take m)[k]? with
   | some b=>rw [hk] at h;rw [hget _ _ hk];exact h
   | none=>
    rw [hk] at h
    split at h
    ·rename_i h1 h2;cases h2
    ·cases h
  | _=>exact h
 | lookup T x k ok=>
  simp only [ac] at h ⊢
  unfold acm at h ⊢
  cases hT:P.underlying T with
  | none=>rw [hT] at h;cases h
  | some d=>
   cases d with
   | map K E=>
    rw [hT] at h
    simp only at h ⊢
    generalize ρ x=y at h ⊢
    cases y with
    | mref j=>
     simp only at h ⊢
     cases hk:(st.take m)[j]? with
     | some b=>rw [hk] at h;rw [hget _ _ hk];exact h
     | none=>rw [hk] at h;cases hb:(keyT P K&&isOf P K (ρ k)&&ab5 P E&&isOf P E (abd P 12 E))<;>rw [hb] at h<;>cases h
    | _=>exact h
   | _=>rw [hT] at h;cases h
 | call cl=>
  simp only [ac] at h ⊢
  unfold aht at h ⊢
  split at h
  ·cases h
  ·split at h<;>cases h
  ·split at h
   ·rename_i x T hx hT
    unfold apl at h ⊢
    generalize ρ x=y at h ⊢
    generalize P.underlying T=u at h ⊢
    cases u with
    | none=>cases h
    | some d=>
     cases d with
     | map K E=>
      cases y with
      | mref j=>
       simp only at h ⊢
       cases hk:(st.take m)[j]? with
       | some b=>rw [hk] at h;rw [hget _ _ hk];exact h
       | none=>rw [hk] at h;cases h
      | _=>exact h
     | slice E0=>
      cases y with
      | arr k g E=>
       simp only at h ⊢
       cases hk:af8 (st.take m) k g E with
       | some xs=>rw [hk] at h;rw [hat _ _ _ _ hk];exact h
       | none=>rw [hk] at h;cases h
      | _=>exact h
     | _=>cases y<;>exact h
   ·cases h
  ·split at h
   ·rename_i x y T T' _ _
    cases hb:Nat.beq T T' with
    | true=>rw [hb] at h;exact absurd h awh
    | false=>rw [hb] at h;cases h
   ·cases h
  ·exact h
  ·exact h
  ·cases h
 | store T a x=>exact absurd h aup
 | insert T a k x=>exact absurd h ai7
 | mapUpdate T a k x=>exact absurd h ai7
 | mapEntry T a k=>exact absurd h aro
 | entryStore T a k x=>exact absurd h ang
 | makeMap T r=>exact absurd h att
 | range T x=>simp only [ac] at h;unfold aic at h;split at h<;>first | (cases h;done) | (simp only [cond_eq_ite] at h;split at h<;>cases h)
 | next x b=>
  simp only [ac] at h;unfold amf at h;repeat' split at h
  all_goals cases h
 | entry x=>
  simp only [ac] at h ⊢
  unfold aj4 at h ⊢
  generalize ρ x=y at h ⊢
  cases y with
  | mitr k=>
   simp only at h ⊢
   cases hk:(st.take m)[k]? with
   | some b=>rw [hk] at h;rw [hget _ _ hk];exact h
   | none=>rw [hk] at h;cases h
  | _=>exact h
 | alloc T=>simp only [ac,agd] at h;cases hb:ae9 P T<;>cases hb2:ab5 P T<;>simp only [hb,hb2,cond_true,cond_false] at h<;>cases h
 | box T x=>simp only [ac,aqq,cond_eq_ite] at h;repeat' split at h
            all_goals cases h
 | makeSlice T n c=>simp only [ac,ac0,aec,cond_eq_ite] at h;repeat' split at h
                    all_goals cases h
 | _=>exact h
theorem as6 {cl:Call}{ρ:Operand->SV}{P:Program}{st st':List BX}{f:FuncId}{args:List SV} (h:aht cl ρ P st=.call f args):aht cl ρ P st'=.call f args:=by
 unfold aht at h ⊢
 split at h
 ·exact h
 ·exact h
 ·exfalso
  split at h
  ·unfold apl at h
   split at h<;>first | (cases h;done) | (split at h<;>cases h)
  ·cases h
 ·exfalso
  split at h
  ·rename_i x y T T' _ _
   cases hb:Nat.beq T T' with
   | false=>rw [hb] at h;cases h
   | true=>
    rw [hb] at h
    simp only [cond_true] at h
    exact absurd h asx
  ·cases h
 ·exact h
 ·exact h
 ·cases h
theorem av3 {R:Type}{C:Cfg} (hC:aai C) {ops:Array Oper}{o:Oper}{e:Env}{s0:List BX}{K:SV->Option R}{r:R} (h:opW C ops o e s0 K=some r):∃ v,(∀ (st:List BX) (m:Nat),st.take m=s0->StepV C ops o e st v st)/\K v=some r:=by
 have hcl:∀ {ρ ρt ρf:Operand->SV}{f:FuncId}{args:List SV},ako o.op=true->ac C.P o.op ρ ρt ρf s0=.call f args->∀ st,ac C.P o.op ρ ρt ρf st=.call f args:=by
  intro ρ ρt ρf f args hi ha st
  unfold ako at hi
  split at hi
  ·rename_i cl hop
   rw [hop] at ha ⊢
   exact as6 ha
  ·cases hi
 unfold opW at h
 split at h
 ·rename_i hg
  split at h
  ·rename_i c v hac
   cases c with
   | false=>cases h
   | true=>exact ⟨v,fun st m hs=>by subst hs;exact .val hg (ale hac),h⟩
  ·rename_i f args hac
   cases hi:ako o.op with
   | false=>rw [hi] at h;cases h
   | true=>
    rw [hi] at h
    simp only [cond_true] at h
    split at h
    ·rename_i as hks has
     obtain ⟨rs,sub',hK,hm⟩:=(hC R true f as [] _ r h).1 rfl
     split at hK
     case h_2=>cases hK
     rename_i rs' hback
     obtain ⟨hne,hK⟩:=ac8 hK
     refine ⟨_,fun st m _=>?_,hK⟩
     have hks':=agv (st':=st) hks
     have:=StepV.call (ops:=ops) (e:=e) (st:=st) (sub:=[]) hg (hcl hi hac st) (by rw [hks'];rw [afl st s0];exact has) (by rw [hks'];rfl) hm (by rw [hks'];exact aek hback st) hne
     rw [hks'] at this
     have e0:abi [] [] st=st:=by simp [abi]
     rw [e0] at this
     exact this
    ·cases h
  ·cases h
 ·rename_i j want hg
  split at h
  ·cases h
  ·rename_i t ht
   split at h
   ·cases h
   ·rename_i b hb
    split at h
    ·rename_i c v hac
     cases hi':imp b c with
     | false=>rw [hi'] at h;cases h
     | true=>rw [hi'] at h;exact ⟨_,fun st m hst=>by subst hst;exact .gval hg ht hb (ale hac) hi',h⟩
    ·rename_i f args hac
     cases hi:ako o.op with
     | false=>rw [hi] at h;cases h
     | true=>
      rw [hi] at h
      simp only [cond_true] at h
      split at h
      ·rename_i as hks has
       obtain ⟨h1,rs0,sub0,hK0⟩:=hC R b f as [] _ r h
       cases b with
       | true=>
        obtain ⟨rs,sub',hK,hm⟩:=h1 rfl
        split at hK
        case h_2=>cases hK
        rename_i rs' hback
        obtain ⟨hne,hK⟩:=ac8 hK
        exact ⟨_,fun st m _=>.gcall hg ht hb (hcl hi hac st) (agv hks) (by rw [afl st s0];exact has) (fun _=>⟨rs,sub',hm,hback⟩) hne,hK⟩
       | false=>
        split at hK0
        case h_2=>cases hK0
        obtain ⟨hne,hK0⟩:=ac8 hK0
        exact ⟨_,fun st m _=>.gcall hg ht hb (hcl hi hac st) (agv hks) (by rw [afl st s0];exact has) (fun hb=>by cases hb) hne,hK0⟩
      ·cases h
    ·cases h
section
variable {Γ:Ctx}
theorem aqg {D:Dom}{ow:Own}{μ:Nat->Nat}{e:Env}{st st':List BX}{a:Act}{w:World}{C:Cfg} (hn:Γ.n=C.n) (hs:Slots Γ D ow μ e st a w) {o:Oper} (hd:akz C.n o.dst=true) (hc:∀ d,o.dst=some d->awf e d) {v:SV}{r:Result Next}
 (h:OpRes Γ D ow μ st w r v st') (s:SV) (hslot:∀ (D':Dom) (w':World) (ow':Own) (μ':Nat->Nat) (u:Value),SRep Γ.P D' w' ow' μ' st' v u->SlotRep Γ.P D' w' ow' μ' st' a s u) (hsg:∀ t want x,s=.gd t want x->o.dst≠some t)
 (next:Act->World->Prop) (Q:Exit->Act->World->Prop) (hnext:∀ a' w',Rel Γ (put e o.dst s) st' a' w'->next a' w'):o.upon Γ.P a next Q r:=by
 obtain ⟨u,w',D',ow',μ',hr,hw,hm,hv⟩:=h
 have hrel:Rel Γ (put e o.dst s) st' (a.put o.dst u) w':=by
  refine ⟨D',ow',μ',hw,(hs.mono hm).put o.dst s u (fun x hx=>⟨by rw [hn];exact ae4 hd x hx,hc x hx⟩) (hslot _ _ _ _ _ hv) hsg⟩
 rcases hr with hr | ⟨hr,hu⟩
 ·rw [hr,Oper.upon_value];exact hnext _ _ hrel
 ·rw [hr,Oper.upon_skip,<-hu];exact hnext _ _ hrel
theorem aor {C:Cfg} (hP:C.P=Γ.P) (hn:Γ.n=C.n) {ops:Array Oper}{i:Nat}{o:Oper} (ho:ops[i]?=some o) {e eF:Env}{st st':List BX}{v:SV} (h:StepV C ops o e st v st') (hd:akz C.n o.dst=true)
 (hle:∀ t,e t=.undef∨e t=eF t) {a:Act}{w:World} (hrel:Rel Γ eF st a w) (hc:∀ d,o.dst=some d->awf eF d) (hgo:∀ j want t,o.guard=some (j,want)->(ops[j]?).bind (·.dst)=some t->o.dst≠some t)
 (next:Act->World->Prop) (Q:Exit->Act->World->Prop) (hnext:(∀ u want x,v=.gd u want x->∃ j,o.guard=some (j,want)/\(ops[j]?).bind (·.dst)=some u)->∀ a' w',Rel Γ (put eF o.dst v) st' a' w'->next a' w'):wpOp Γ.P ops Q i next a w:=by
 obtain ⟨D,ow,μ,hw,hs⟩:=hrel
 have hse:Slots Γ D ow μ e st a w:=⟨hs.size,hs.defers,fun t=>by
  rcases hle t with h | h
  ·rw [h];exact .undef
  ·rw [h];exact hs.slot t⟩
 unfold wpOp
 simp only [ho]
 have hη:∀ f,a.eval (.func f)=.func (.func f) #[] #[]:=fun f=>rfl
 have hρ:∀ x,SRep Γ.P D w ow μ st (opd e [] x) (a.eval x):=fun x=>abm hse [] (fun _ hx=>by cases hx) x
 have hpick:∀ (gs:List (Nat×Bool)),(∀ z,z∈gs->a.tmps.getD z.1 Go.undef=.bool z.2)->∀ c x y,o.op=.pick c x y->(a.eval c=.bool true->SRep Γ.P D w ow μ st (ρT e gs o.op true x) (a.eval x))/\(a.eval c=.bool false->SRep Γ.P D w ow μ st (ρT e gs o.op false y) (a.eval y)):=by
  intro gs hgs c x y hop
  rw [hop]
  refine ⟨fun hc=>?_,fun hc=>?_⟩
  ·cases c with
   | tmp t=>exact abm hse ((t,true)::gs) (fun z hz=>by
    rcases List.mem_cons.1 hz with rfl | hz
    ·exact hc
    ·exact hgs z hz) x
   | _=>exact hρ x
  ·cases c with
   | tmp t=>exact abm hse ((t,false)::gs) (fun z hz=>by
    rcases List.mem_cons.1 hz with rfl | hz
    ·exact hc
    ·exact hgs z hz) y
   | _=>exact hρ y
 have plain:∀ {r:Result Next},OpRes Γ D ow μ st w r v st'->o.upon Γ.P a next Q r:=by
  intro r hres
  have hng:∀ t want x,v≠.gd t want x:=by
   intro t want x hv
   obtain ⟨u,w',D',ow',μ',_,_,_,hv'⟩:=hres
   subst hv;cases hv'
  exact aqg hn hs hd hc hres v (fun _ _ _ _ _ h=>h.slot) (fun t want x hv=>absurd hv (hng t want x)) next Q (hnext fun u want x hv=>absurd hv (hng u want x))
 cases h with
 | val hg hac=>
  have hw1:Region.wanted o (yielded ops a.tmps)=true:=by simp [Region.wanted,hg]
  simp only [hw1,if_true]
  refine Or.inl ?_
  unfold Oper.wp
  rw [hP] at hac
  exact plain (aej hw hρ o (hpick [] (fun _ hx=>by cases hx)) v hac)
 | upd hg hac=>
  have hw1:Region.wanted o (yielded ops a.tmps)=true:=by simp [Region.wanted,hg]
  simp only [hw1,if_true]
  refine Or.inl ?_
  unfold Oper.wp
  rw [hP] at hac
  exact plain (akk hw hρ o v st' hac)
 | @call f args as rs rs' sub sub' bs hg hac has hsub hm hback hne=>
  have hw1:Region.wanted o (yielded ops a.tmps)=true:=by simp [Region.wanted,hg]
  simp only [hw1,if_true]
  refine Or.inl ?_
  unfold Oper.wp
  rw [hP] at hac hm
  obtain ⟨vals,hrun,hsz,hargs⟩:=abt hρ hη o f args hac
  rw [hrun,hm.1 vals w,Oper.upon_enter]
  refine (ac4 hw (ada _ _) hsub has hsz hargs hm hback).mono fun en w' ⟨v,D',ow2,μ2,he,h1,h2,h3⟩=>?_
  rcases abw h3 with ⟨s,e,_⟩ | ⟨_,h3,hend⟩
  ·exact absurd e (hne s)
  rw [hend] at he
  subst he
  have hng:∀ t want x,adf rs'≠.gd t want x:=by intro t want x hv;rw [hv] at h3;cases h3
  exact hnext (fun u want x hv=>absurd hv (hng u want x)) _ _ ⟨D',ow2,μ2,h1,(hs.mono h2).put o.dst _ v (fun x hx=>⟨by rw [hn];exact ae4 hd x hx,hc x hx⟩) h3.slot (fun t want x hh=>absurd hh (hng t want x))⟩
 | @gval j t want b c v hg ht hb hac hi=>
  have hiff:=ae7 hse 8 t want b hb
  have hwi:=afo (tmps:=a.tmps) hg ht
  have hdt:=hgo j want t hg ht
  have hgd:∀ u want' x,SV.gd t want v=.gd u want' x->∃ j,o.guard=some (j,want')/\(ops[j]?).bind (·.dst)=some u:=by
   intro u want' x he;cases he;exact ⟨j,hg,ht⟩
  cases b with
  | false=>
   have hne:a.tmps.getD t Go.undef≠.bool want:=fun hh=>by have:=hiff.1 hh;cases this
   have hw0:Region.wanted o (yielded ops a.tmps)=false:=by
    cases hc:Region.wanted o (yielded ops a.tmps) with
    | false=>rfl
    | true=>exact absurd (hwi.1 hc) hne
   simp only [hw0,Bool.false_eq_true,if_false]
   exact hnext hgd _ _ ⟨D,ow,μ,hw,hs.put o.dst _ Go.undef (fun x hx=>⟨by rw [hn];exact ae4 hd x hx,hc x hx⟩) ⟨fun hh=>absurd hh hne,fun _=>rfl⟩ (fun u want' x hh hdt'=>by cases hh;exact hdt hdt')⟩
  | true=>
   have hgt:a.tmps.getD t Go.undef=.bool want:=hiff.2 rfl
   have hw1:Region.wanted o (yielded ops a.tmps)=true:=hwi.2 hgt
   simp only [hw1,if_true]
   refine Or.inl ?_
   unfold Oper.wp
   have hc1:c=true:=by cases c with | true=>rfl | false=>simp [imp] at hi
   subst hc1
   rw [hP] at hac
   have hρ':∀ x,SRep Γ.P D w ow μ st (opd e [(t,want)] x) (a.eval x):=fun x=>abm hse [(t,want)] (fun z hz=>by simp at hz;subst hz;exact hgt) x
   have hres:=aej hw hρ' o (hpick [(t,want)] (fun z hz=>by simp at hz;subst hz;exact hgt)) v hac
   exact aqg hn hs hd hc hres (.gd t want v) (fun _ _ _ _ _ h=>⟨fun _=>h,fun hh=>absurd hgt hh⟩) (fun u want' x hh hdt'=>by cases hh;exact hdt hdt') next Q (hnext hgd)
 | @gcall j t want b f args as rs' hg ht hb hac hks has hm hne=>
  have hiff:=ae7 hse 8 t want b hb
  have hwi:=afo (tmps:=a.tmps) hg ht
  have hdt:=hgo j want t hg ht
  have hgd:∀ u want' x,SV.gd t want (adf rs')=.gd u want' x->∃ j,o.guard=some (j,want')/\(ops[j]?).bind (·.dst)=some u:=by
   intro u want' x he;cases he;exact ⟨j,hg,ht⟩
  cases b with
  | false=>
   have hne:a.tmps.getD t Go.undef≠.bool want:=fun hh=>by have:=hiff.1 hh;cases this
   have hw0:Region.wanted o (yielded ops a.tmps)=false:=by
    cases hc:Region.wanted o (yielded ops a.tmps) with
    | false=>rfl
    | true=>exact absurd (hwi.1 hc) hne
   simp only [hw0,Bool.false_eq_true,if_false]
   exact hnext hgd _ _ ⟨D,ow,μ,hw,hs.put o.dst _ Go.undef (fun x hx=>⟨by rw [hn];exact ae4 hd x hx,hc x hx⟩) ⟨fun hh=>absurd hh hne,fun _=>rfl⟩ (fun u want' x hh hdt'=>by cases hh;exact hdt hdt')⟩
  | true=>
   have hgt:a.tmps.getD t Go.undef=.bool want:=hiff.2 rfl
   have hw1:Region.wanted o (yielded ops a.tmps)=true:=hwi.2 hgt
   simp only [hw1,if_true]
   refine Or.inl ?_
   unfold Oper.wp
   obtain ⟨rs,sub',hm,hback⟩:=hm rfl
   rw [hP] at hac hm
   have hρ':∀ x,SRep Γ.P D w ow μ st (opd e [(t,want)] x) (a.eval x):=fun x=>abm hse [(t,want)] (fun z hz=>by simp at hz;subst hz;exact hgt) x
   obtain ⟨vals,hrun,hsz,hargs⟩:=abt hρ' hη o f args hac
   rw [hrun,hm.1 vals w,Oper.upon_enter]
   refine (ac4 hw (ks:=[]) (by simp) (sub:=[]) rfl has hsz hargs hm (aek hback st)).mono fun en w' ⟨v,D',ow2,μ2,he,h1,h2,h3⟩=>?_
   rcases abw h3 with ⟨s,e,_⟩ | ⟨_,h3,hend⟩
   ·exact absurd e (hne s)
   rw [hend] at he
   subst he
   have hbk:abi [] [] st=st:=by simp [abi]
   rw [hbk] at h1 h2 h3
   exact hnext hgd _ _ ⟨D',ow2,μ2,h1,(hs.mono h2).put o.dst _ v (fun x hx=>⟨by rw [hn];exact ae4 hd x hx,hc x hx⟩) ⟨fun _=>h3,fun hh=>absurd hgt hh⟩ (fun u want' x hh hdt'=>by cases hh;exact hdt hdt')⟩
 | @gcallU j t want f args as rs rs' sub sub' bs hg ht hb hac has hsub hm hback hne=>
  have hiff:=ae7 hse 8 t want true hb
  have hwi:=afo (tmps:=a.tmps) hg ht
  have hdt:=hgo j want t hg ht
  have hgd:∀ u want' x,SV.gd t want (adf rs')=.gd u want' x->∃ j,o.guard=some (j,want')/\(ops[j]?).bind (·.dst)=some u:=by
   intro u want' x he;cases he;exact ⟨j,hg,ht⟩
  have hgt:a.tmps.getD t Go.undef=.bool want:=hiff.2 rfl
  have hw1:Region.wanted o (yielded ops a.tmps)=true:=hwi.2 hgt
  simp only [hw1,if_true]
  refine Or.inl ?_
  unfold Oper.wp
  rw [hP] at hac hm
  have hρ':∀ x,SRep Γ.P D w ow μ st (opd e [(t,want)] x) (a.eval x):=fun x=>abm hse [(t,want)] (fun z hz=>by simp at hz;subst hz;exact hgt) x
  obtain ⟨vals,hrun,hsz,hargs⟩:=abt hρ' hη o f args hac
  rw [hrun,hm.1 vals w,Oper.upon_enter]
  refine (ac4 hw (ada _ _) hsub has hsz hargs hm hback).mono fun en w' ⟨v,D',ow2,μ2,he,h1,h2,h3⟩=>?_
  rcases abw h3 with ⟨s,e,_⟩ | ⟨_,h3,hend⟩
  ·exact absurd e (hne s)
  rw [hend] at he
  subst he
  exact hnext hgd _ _ ⟨D',ow2,μ2,h1,(hs.mono h2).put o.dst _ v (fun x hx=>⟨by rw [hn];exact ae4 hd x hx,hc x hx⟩) ⟨fun _=>h3,fun hh=>absurd hgt hh⟩ (fun u want' x hh hdt'=>by cases hh;exact hdt hdt')⟩
 | @gskip j t want f args x hg ht hb hac=>
  have hiff:=ae7 hse 8 t want false hb
  have hwi:=afo (tmps:=a.tmps) hg ht
  have hdt:=hgo j want t hg ht
  have hgd:∀ u want' y,SV.gd t want x=.gd u want' y->∃ j,o.guard=some (j,want')/\(ops[j]?).bind (·.dst)=some u:=by
   intro u want' y he;cases he;exact ⟨j,hg,ht⟩
  have hne:a.tmps.getD t Go.undef≠.bool want:=fun hh=>by have:=hiff.1 hh;cases this
  have hw0:Region.wanted o (yielded ops a.tmps)=false:=by
   cases hc:Region.wanted o (yielded ops a.tmps) with
   | false=>rfl
   | true=>exact absurd (hwi.1 hc) hne
  simp only [hw0,Bool.false_eq_true,if_false]
  exact hnext hgd _ _ ⟨D,ow,μ,hw,hs.put o.dst _ Go.undef (fun x hx=>⟨by rw [hn];exact ae4 hd x hx,hc x hx⟩) ⟨fun hh=>absurd hh hne,fun _=>rfl⟩ (fun u want' x hh hdt'=>by cases hh;exact hdt hdt')⟩
theorem auo {C:Cfg} (hP:C.P=Γ.P) {ops:Array Oper}{i:Nat}{o:Oper} (ho:ops[i]?=some o) {e eF:Env}{st st':List BX}{s:SV} (h:a4r C o e st s st')
 (hle:∀ t,e t=.undef∨e t=eF t) {a:Act}{w:World} (hrel:Rel Γ eF st a w) (next:Act->World->Prop) (Q:Exit->Act->World->Prop)
 (hX:∀ v a' w',PRel Γ s st' v a' w'->Q (.panic [{ v,recovered:=false }]) a' w'):wpOp Γ.P ops Q i next a w:=by
 obtain ⟨D,ow,μ,hw,hs⟩:=hrel
 obtain ⟨hg,f,args,as,rs,sub,sub',bs,hac,has,hsub,hm,hback,rfl⟩:=h
 have hse:Slots Γ D ow μ e st a w:=⟨hs.size,hs.defers,fun t=>by
  rcases hle t with h | h
  ·rw [h];exact .undef
  ·rw [h];exact hs.slot t⟩
 have hρ:∀ x,SRep Γ.P D w ow μ st (opd e [] x) (a.eval x):=fun x=>abm hse [] (fun _ hx=>by cases hx) x
 have hη:∀ f,a.eval (.func f)=.func (.func f) #[] #[]:=fun f=>rfl
 unfold wpOp
 simp only [ho]
 have hw1:Region.wanted o (yielded ops a.tmps)=true:=by simp [Region.wanted,hg]
 simp only [hw1,if_true]
 refine Or.inl ?_
 unfold Oper.wp
 rw [hP] at hac hm
 obtain ⟨vals,hrun,hsz,hargs⟩:=abt hρ hη o f args hac
 rw [hrun,hm.1 vals w,Oper.upon_enter]
 refine (ac4 hw (ada _ _) hsub has hsz hargs hm hback).mono fun en w' ⟨v,D',ow2,μ2,he,h1,h2,h3⟩=>?_
 subst he
 exact hX v a w' ⟨hs.defers,D',ow2,μ2,h1,h3⟩
end
end Go.Ab
namespace Go.Ab
open Go
inductive Anc (ops:Array Oper):Nat->Nat->Prop
 | edge {j:Nat}{o:Oper}{x:Edge}:ops[j]?=some o->x∈o.after->Region.binds .any x=true->Anc ops x.on j
 | step {i j:Nat}{o:Oper}{x:Edge}:ops[j]?=some o->x∈o.after->Region.binds .any x=true->Anc ops i x.on->Anc ops i j
theorem aq0 {acc:List Nat}{i:Nat}:∀ {es:List Edge},Nat.testBit (aem acc es) i=true->∃ x,x∈es/\Region.binds .any x=true/\(i=x.on∨Nat.testBit (acc.getD x.on 0) i=true):=by
 intro es
 induction es with
 | nil=>intro h;simp [aem] at h
 | cons x r ih=>
  intro h
  unfold aem at h
  cases hb:Region.binds .any x with
  | false=>
   rw [hb] at h
   obtain ⟨y,h1,h2⟩:=ih h
   exact ⟨y,List.mem_cons_of_mem _ h1,h2⟩
  | true=>
   rw [hb] at h
   simp only [cond_true,Nat.testBit_or,Bool.or_eq_true] at h
   rcases h with (h | h) | h
   ·rw [Nat.testBit_two_pow] at h
    exact ⟨x,by simp,hb,Or.inl (by simpa [eq_comm] using h)⟩
   ·exact ⟨x,by simp,hb,Or.inr h⟩
   ·obtain ⟨y,h1,h2⟩:=ih h
    exact ⟨y,List.mem_cons_of_mem _ h1,h2⟩
theorem aye {ops:Array Oper}:∀ (l:List Oper) (acc:List Nat),ops.toList.drop acc.length=l->(∀ j i,Nat.testBit (acc.getD j 0) i=true->Anc ops i j)->∀ j i,Nat.testBit ((ancL l acc).getD j 0) i=true->Anc ops i j:=by
 intro l
 induction l with
 | nil=>intro acc _ h;exact h
 | cons o r ih=>
  intro acc hl h
  unfold ancL
  have ho:ops[acc.length]?=some o:=by
   have:(ops.toList.drop acc.length)[0]?=some o:=by rw [hl];rfl
   simpa using this
  have hl':ops.toList.drop (acc.length+1)=r:=by
   have:(ops.toList.drop acc.length).drop 1=r:=by rw [hl];rfl
   rwa [List.drop_drop] at this
  refine ih _ (by simpa using hl') (fun j i hb=>?_)
  by_cases hj:j<acc.length
  ·exact h j i (by simpa [List.getD,List.getElem?_append_left hj] using hb)
  ·by_cases hj2:j=acc.length
   ·subst hj2
    have hb':Nat.testBit (aem acc o.after.toList) i=true:=by simpa [List.getD] using hb
    obtain ⟨x,h1,h2,h3⟩:=aq0 hb'
    rcases h3 with rfl | h3
    ·exact .edge ho (by simpa using h1) h2
    ·exact .step ho (by simpa using h1) h2 (h _ _ h3)
   ·have:(acc++[aem acc o.after.toList])[j]?=none:=List.getElem?_eq_none (by simp;omega)
    simp [List.getD,this] at hb
theorem arn {ops:Array Oper}{i j:Nat} (h:(mkDI ops).lt i j=true):i<j/\Anc ops i j:=by
 unfold DI.lt at h
 simp only [Bool.and_eq_true] at h
 refine ⟨Nat.le_of_ble_eq_true h.1,aye ops.toList [] (by simp) (fun j i hb=>by simp at hb) j i h.2⟩
def Down (ops:Array Oper) (L:Array Bool):Prop:=∀ j,L.getD j false=true->∀ o,ops[j]?=some o->∀ x,x∈o.after->Region.binds .any x=true->L.getD x.on false=true
theorem ayf {ops:Array Oper}{L:Array Bool} (hd:Down ops L) {i j:Nat} (h:Anc ops i j) (hp:∀ o,ops[j]?=some o->∀ x,x∈o.after->Region.binds .any x=true->L.getD x.on false=true):L.getD i false=true:=by
 induction h with
 | edge ho hx hb=>exact hp _ ho _ hx hb
 | step ho hx hb _ ih=>exact ih (hd _ (hp _ ho _ hx hb))
theorem auw {t:Nat}:∀ {l:List Oper}{k i:Nat},ace t l k=some i->k<=i/\∃ o,l[i-k]?=some o/\o.dst=some t:=by
 intro l
 induction l with
 | nil=>intro k i h;simp [ace] at h
 | cons o r ih=>
  intro k i h
  have next:ace t r (k+1)=some i->k<=i/\∃ o',(o::r)[i-k]?=some o'/\o'.dst=some t:=by
   intro h
   obtain ⟨h1,o',h2,h3⟩:=ih h
   refine ⟨by omega,o',?_,h3⟩
   have:i-k=(i-(k+1))+1:=by omega
   rw [this];simpa using h2
  unfold ace at h
  split at h
  ·rename_i d hd
   cases hb:Nat.beq d t with
   | true=>
    rw [hb] at h
    simp only [cond_true,Option.some.injEq] at h
    subst h
    exact ⟨Nat.le_refl _,o,by simp,by rw [hd,Nat.eq_of_beq_eq_true hb]⟩
   | false=>rw [hb] at h;exact next h
  ·exact next h
theorem art:∀ {l:List Nat},av0 l=true->l.Nodup:=by
 intro l
 induction l with
 | nil=>intro _;simp
 | cons x r ih=>
  intro h
  simp only [av0,Bool.and_eq_true,Bool.not_eq_true'] at h
  refine List.nodup_cons.2 ⟨fun hm=>?_,ih h.2⟩
  have:r.any (Nat.beq x)=true:=List.any_eq_true.2 ⟨x,hm,Nat.beq_refl x⟩
  rw [this] at h;cases h.1
theorem a1q {t:Nat}:∀ {l:List Oper}{k i:Nat}{o:Oper},(dsts l).Nodup->l[i]?=some o->o.dst=some t->ace t l k=some (k+i):=by
 intro l
 induction l with
 | nil=>intro k i o _ h;simp at h
 | cons x r ih=>
  intro k i o hn h hd
  have hr:(dsts r).Nodup:=by
   unfold dsts at*
   simp only [List.filterMap_cons] at hn
   split at hn
   ·exact hn
   ·exact (List.nodup_cons.1 hn).2
  cases i with
  | zero=>
   simp at h;subst h
   unfold ace
   simp [hd]
  | succ i=>
   have h':r[i]?=some o:=by simpa using h
   have hm:t∈dsts r:=List.mem_filterMap.2 ⟨o,List.mem_of_getElem? h',hd⟩
   have hrec:ace t r (k+1)=some (k+(i+1)):=by
    rw [ih (k:=k+1) hr h' hd];congr 1;omega
   unfold ace
   split
   ·rename_i d hx
    cases hb:Nat.beq d t with
    | true=>
     have:=Nat.eq_of_beq_eq_true hb;subst this
     unfold dsts at hn hm
     simp only [List.filterMap_cons,hx] at hn
     exact absurd hm (List.nodup_cons.1 hn).1
    | false=>exact hrec
   ·exact hrec
theorem ad0 {f:Nat->Oper->Bool}:∀ {l:List Oper}{k:Nat},ajw f l k=true->∀ i o,l[i]?=some o->f (k+i) o=true:=by
 intro l
 induction l with
 | nil=>intro k _ i o h;simp at h
 | cons x r ih=>
  intro k h i o hi
  simp only [ajw,Bool.and_eq_true] at h
  cases i with
  | zero=>simp at hi;subst hi;exact h.1
  | succ i=>have:=ih h.2 i o (by simpa using hi);rwa [show k+(i+1)=k+1+i by omega]
theorem aq1:∀ {l:List Oper}{k:Nat},ao4 l k=true->∀ i o,l[i]?=some o->∀ x,x∈o.after->Region.binds .any x=true->x.on<k+i:=by
 intro l
 induction l with
 | nil=>intro k _ i o h;simp at h
 | cons y r ih=>
  intro k h i o hi x hx hb
  simp only [ao4,Bool.and_eq_true,List.all_eq_true] at h
  cases i with
  | zero=>
   simp at hi;subst hi
   have:=h.1 x (by simpa using hx)
   simp only [hb,Bool.not_true,Bool.false_or] at this
   exact Nat.le_of_ble_eq_true this
  | succ i=>have:=ih h.2 i o (by simpa using hi) x hx hb;omega
structure DStep (C:Cfg) (d:DI) (ops:Array Oper) (n0 j:Nat) (o:Oper) (e:Env) (st:List BX) (v:SV) (st':List BX) (lk lk':List LM):Prop where
 dst:akz C.n o.dst=true
 gd:gdOk d j o=true
 upd:d.upd j o=true->(bif acq o.op then d.isN j else d.isA j)=true/\n0<=st.length/\n0<=st'.length/\(d.soft o=true->az9 n0 o (d.mask j e)=true)/\StepV C ops o (d.mask j e) st v st'
 non:d.upd j o=false->st'=st/\∀ st2,(d.isA j=true->st2=st)->(d.isA j=false->st2.take (bif d.isB j then n0 else 0)=st.take (bif d.isB j then n0 else 0))->lmOf d n0 j o (d.mask j e) lk=none->StepV C ops o (d.mask j e) st2 v st2
 lm:∀ p,d.upd j o=false->lmOf d n0 j o (d.mask j e) lk=some p->rdAc C.P p st=.val true v/\{ p with v:=v }∈lk'
 log:∀ p,p∈lk'->p.u=true->p∈lk∨(p.j=j/\d.upd j o=true/\p.f=fun k=>aib C o (d.mask j e) st k)
 sub:∀ p,p∈lk->p∈lk'
 ok:d.upd j o=true->∀ p,p∈lk->p.u=false->d.cmp p.j j=false->(acq o.op||d.soft o)=true∨aib C o (d.mask j e) st p.k=true∨rdAc C.P p st'=.val true p.v∨(p.q.isSome=true/\aph o.op=true)
structure DPan (C:Cfg) (d:DI) (n0 j:Nat) (o:Oper) (e:Env) (st:List BX) (sp:SV) (st':List BX):Prop where
 upd:d.upd j o=true
 ext:acq o.op=false
 isA:d.isA j=true
 last:d.last j=true
 len:n0<=st.length
 step:a4r C o (d.mask j e) st sp st'
theorem ase {a:Ac}{v:SV} (h:auj a v=true):a=.val true v:=by
 unfold auj at h
 split at h
 ·simp only [Bool.and_eq_true] at h
  obtain ⟨⟨h1,h2⟩,h3⟩:=h
  rw [Nat.eq_of_beq_eq_true h1,Nat.eq_of_beq_eq_true h2,Nat.eq_of_beq_eq_true h3]
 ·cases h
theorem ari {d:DI}{n0 j:Nat}{o:Oper}{e:Env}{lk:List LM}{p:LM} (h:lmOf d n0 j o e lk=some p):o.guard=none/\(ako o.op=false/\∀ (P:Program) (ρt ρf:Operand->SV) (st:List BX),ac P o.op (opd e []) ρt ρf st=rdAc P p st)/\a0r p=some p.k/\p.k<n0/\p.j=j/\d.isA j=false/\p.u=false/\
 ajw (fun i x=>!(d.upd i x)||Nat.ble j i||d.cmp i j||arj lk i p.k) d.l 0=true:=by
 unfold lmOf at h
 split at h
 ·rename_i T a hg hop
  split at h
  ·rename_i k hk
   cases hc:(Nat.blt k n0&&!(d.isA j)&&!(d.isB j)&&ajw (fun i x=>!(d.upd i x)||Nat.ble j i||d.cmp i j||arj lk i k) d.l 0) with
   | false=>rw [hc] at h;cases h
   | true=>
    rw [hc] at h
    simp only [cond_true,Option.some.injEq] at h
    subst h
    simp only [Bool.and_eq_true,Bool.not_eq_true'] at hc
    exact ⟨hg,⟨by rw [hop];rfl,fun P ρt ρf st=>by rw [hop];rfl⟩,hk,Nat.le_of_ble_eq_true hc.1.1.1,rfl,hc.1.1.2,rfl,hc.2⟩
  ·cases h
 ·rename_i T m x hg hop
  split at h
  ·rename_i k hk
   cases hc:(Nat.blt k n0&&!(d.isA j)&&!(d.isB j)&&ajw (fun i x=>!(d.upd i x)||Nat.ble j i||d.cmp i j||arj lk i k) d.l 0) with
   | false=>rw [hc] at h;cases h
   | true=>
    rw [hc] at h
    simp only [cond_true,Option.some.injEq] at h
    subst h
    simp only [Bool.and_eq_true,Bool.not_eq_true'] at hc
    exact ⟨hg,⟨by rw [hop];rfl,fun P ρt ρf st=>by rw [hop];show acm P T st (opd e [] m) (opd e [] x) false=_;rw [hk];rfl⟩,rfl,Nat.le_of_ble_eq_true hc.1.1.1,rfl,hc.1.1.2,rfl,hc.2⟩
  ·cases h
 ·cases h
theorem a7m {R:Type}{C:Cfg}{ops:Array Oper}{o:Oper}{e:Env}{st:List BX}{K:SV->Option R}{r:R}{p:LM} (h:opW C ops o e st K=some r) (hg:o.guard=none) (hc:ako o.op=false) (hop:∀ (P:Program) (ρt ρf:Operand->SV) (st:List BX),ac P o.op (opd e []) ρt ρf st=rdAc P p st):∃ v,rdAc C.P p st=.val true v/\K v=some r:=by
 unfold opW at h
 rw [hg] at h
 simp only [hop] at h
 split at h
 ·rename_i c v hac
  cases c with
  | false=>cases h
  | true=>exact ⟨v,hac,h⟩
 ·rw [hc] at h;cases h
 ·cases h
theorem axw {R:Type}{C:Cfg} (hC:aai C) {d:DI}{ops:Array Oper}{n0:Nat}{r:R}{K:Env->List BX->Option R}{X:SV->List BX->Option R}:∀ (l:List Oper) (j:Nat) (e:Env) (st:List BX) (lk:List LM),runD C d ops n0 l j e st lk K X=some r->
 ∃ (N:Nat) (v:Nat->SV) (s:Nat->List BX) (E:Nat->Env) (LK:Nat->List LM),s j=st/\E j=e/\LK j=lk/\N<=l.length/\(∀ i o,i<N->l[i]?=some o->DStep C d ops n0 (j+i) o (E (j+i)) (s (j+i)) (v (j+i)) (s (j+i+1)) (LK (j+i)) (LK (j+i+1))/\E (j+i+1)=put (E (j+i)) o.dst (v (j+i)))/\
  ((N=l.length/\K (E (j+N)) (s (j+N))=some r)∨∃ o sp st',l[N]?=some o/\DPan C d n0 (j+N) o (E (j+N)) (s (j+N)) sp st'/\X sp st'=some r):=by
 intro l
 induction l with
 | nil=>intro j e st lk h;exact ⟨0,fun _=>.undef,fun _=>st,fun _=>e,fun _=>lk,rfl,rfl,rfl,by simp,fun i o _ h=>by simp at h,Or.inl ⟨rfl,h⟩⟩
 | cons o l ih=>
  intro j e st lk h
  unfold runD at h
  cases hg:(akz C.n o.dst&&gdOk d j o) with
  | false=>rw [hg] at h;cases h
  | true=>
   rw [hg] at h
   simp only [cond_true] at h
   simp only [Bool.and_eq_true] at hg
   have key:(∃ v0 st' lk',DStep C d ops n0 j o e st v0 st' lk lk'/\runD C d ops n0 l (j+1) (put e o.dst v0) st' lk' K X=some r)∨∃ sp st',DPan C d n0 j o e st sp st'/\X sp st'=some r:=by
    cases hu:d.upd j o with
    | true=>
     rw [hu] at h
     simp only [cond_true] at h
     cases hA:((bif acq o.op then d.isN j else d.isA j)&&Nat.ble n0 st.length&&(!(d.soft o)||az9 n0 o (d.mask j e))) with
     | false=>rw [hA] at h;cases h
     | true=>
      rw [hA] at h
      simp only [cond_true] at h
      simp only [Bool.and_eq_true,Bool.or_eq_true,Bool.not_eq_true'] at hA
      obtain ⟨⟨hA1,hA2⟩,hA3⟩:=hA
      rcases a3g hC h with ⟨v0,st',hs,hk⟩ | ⟨sp,st',hs,hk⟩
      ·refine Or.inl ?_
       cases hl:(Nat.ble n0 st'.length&&lmOk C d j o (d.mask j e) st st' lk) with
       | false=>rw [hl] at hk;cases hk
       | true=>
        rw [hl] at hk
        simp only [Bool.and_eq_true] at hl
        refine ⟨v0,st',_,⟨hg.1,hg.2,fun _=>⟨hA1,Nat.le_of_ble_eq_true hA2,Nat.le_of_ble_eq_true hl.1,fun hx=>?_,hs⟩,fun hf=>absurd hf (by rw [hu];decide),fun p hf=>absurd hf (by rw [hu];decide),fun p hp _=>?_,fun p hp=>List.mem_append_left _ hp,fun _ p hp hpu hcm=>?_⟩,hk⟩
        ·rcases hA3 with h2 | h2
         ·rw [hx] at h2;cases h2
         ·exact h2
        ·rcases List.mem_append.1 hp with hp | hp
         ·exact Or.inl hp
         ·rw [List.mem_singleton] at hp;subst hp;exact Or.inr ⟨rfl,hu,rfl⟩
        ·have h3:=List.all_eq_true.1 hl.2 p hp
         rw [hcm,hpu] at h3
         simp only [Bool.false_or,Bool.or_eq_true] at h3
         rcases h3 with (((h3 | h3) | h3) | h3) | h3
         ·exact Or.inl (by rw [h3];rfl)
         ·exact Or.inl (by rw [h3];simp)
         ·exact Or.inr (Or.inl h3)
         ·exact Or.inr (Or.inr (Or.inl (ase h3)))
         ·simp only [Bool.and_eq_true] at h3;exact Or.inr (Or.inr (Or.inr h3))
      ·refine Or.inr ⟨sp,st',?_⟩
       cases hl:(d.last j&&!(acq o.op)) with
       | false=>rw [hl] at hk;cases hk
       | true=>
        rw [hl] at hk
        simp only [Bool.and_eq_true,Bool.not_eq_true'] at hl
        rw [hl.2] at hA1
        exact ⟨⟨hu,hl.2,hA1,hl.1,Nat.le_of_ble_eq_true hA2,hs⟩,hk⟩
    | false=>
     rw [hu] at h
     simp only [cond_false] at h
     refine Or.inl ?_
     cases hlm:lmOf d n0 j o (d.mask j e) lk with
     | some p=>
      rw [hlm] at h
      simp only at h
      obtain ⟨hgn,⟨hnc,hop⟩,_,_,_,hnA,hpu,_⟩:=ari hlm
      obtain ⟨v0,hl,hk⟩:=a7m h hgn hnc hop
      refine ⟨v0,st,_,⟨hg.1,hg.2,fun hf=>absurd hf (by rw [hu];decide),fun _=>⟨rfl,fun st2 _ _ hn=>?_⟩,fun q _ hq=>?_,fun q hq hqu=>?_,fun q hq=>List.mem_append_left _ hq,fun hf=>absurd hf (by rw [hu];decide)⟩,hk⟩
      ·rw [hlm] at hn;cases hn
      ·rw [hlm] at hq;cases hq
       exact ⟨hl,by simp⟩
      ·rcases List.mem_append.1 hq with hq | hq
       ·exact Or.inl hq
       ·rw [List.mem_singleton] at hq;subst hq;exact absurd hqu (by simp [hpu])
     | none=>
      rw [hlm] at h
      simp only at h
      cases hA:d.isA j with
      | true=>
       rw [hA] at h
       simp only [cond_true] at h
       obtain ⟨v0,hs,hk⟩:=av3 hC h
       refine ⟨v0,st,lk,⟨hg.1,hg.2,fun hf=>absurd hf (by rw [hu];decide),fun _=>⟨rfl,fun st2 h1 _ _=>?_⟩,fun q _ hq=>absurd hq (by rw [hlm];simp),fun _ hq _=>Or.inl hq,fun _ hq=>hq,fun hf=>absurd hf (by rw [hu];decide)⟩,hk⟩
       exact hs st2 st2.length (by rw [List.take_length,h1 hA])
      | false=>
       rw [hA] at h
       simp only [cond_false] at h
       obtain ⟨v0,hs,hk⟩:=av3 hC h
       exact ⟨v0,st,lk,⟨hg.1,hg.2,fun hf=>absurd hf (by rw [hu];decide),fun _=>⟨rfl,fun st2 _ h1 _=>hs st2 _ (h1 hA)⟩,fun q _ hq=>absurd hq (by rw [hlm];simp),fun _ hq _=>Or.inl hq,fun _ hq=>hq,fun hf=>absurd hf (by rw [hu];decide)⟩,hk⟩
   rcases key with ⟨v0,st',lk',hs,hk⟩ | ⟨sp,st',hp,hk⟩
   ·obtain ⟨N,v,s,E,LK,h1,h2,h2',hN,h3,h4⟩:=ih (j+1) _ _ _ hk
    refine ⟨N+1,fun i=>if i=j then v0 else v i,fun i=>if i=j then st else s i,fun i=>if i=j then e else E i,fun i=>if i=j then lk else LK i,by simp,by simp,by simp,by simpa using hN,fun i x hlt hi=>?_,?_⟩
    ·cases i with
     | zero=>
      simp at hi;subst hi
      simp only [Nat.add_zero,if_true]
      rw [if_neg (by omega),if_neg (by omega),if_neg (by omega),h1,h2,h2']
      exact ⟨hs,rfl⟩
     | succ i=>
      have:=h3 i x (by omega) (by simpa using hi)
      have e1:j+(i+1)=j+1+i:=by omega
      rw [e1]
      simp only [if_neg (show ¬(j+1+i=j) by omega),if_neg (show ¬(j+1+i+1=j) by omega)]
      exact this
    ·rw [show j+(N+1)=j+1+N by omega]
     simp only [if_neg (show ¬(j+1+N=j) by omega)]
     rcases h4 with ⟨h4,h5⟩ | ⟨o',sp,st',h4,h5,h6⟩
     ·exact Or.inl ⟨by simp [h4],h5⟩
     ·exact Or.inr ⟨o',sp,st',by simpa using h4,h5,h6⟩
   ·exact ⟨0,fun _=>.undef,fun _=>st,fun _=>e,fun _=>lk,rfl,rfl,rfl,by simp,fun i o h=>by omega,Or.inr ⟨o,sp,st',rfl,hp,hk⟩⟩
end Go.Ab
namespace Go.Ab
open Go
theorem ald {P:Program}{op:Op}{ρ ρt ρf:Operand->SV}{st:List BX} (hx:acq op=true):ac P op ρ ρt ρf st=match extV P op ρ st.length with | some (v,b)=>.upd true v (st++[b]) | none=>.fail:=by
 unfold acq at hx
 split at hx
 ·rename_i T
  simp only [ac,agd,extV]
  cases ae9 P T<;>cases ab5 P T<;>rfl
 ·rename_i T x
  simp only [ac,aqq,extV]
  cases (ae9 P T&&aiy P 3 T (ρ x))<;>cases af9 P T (ρ x)<;>rfl
 ·rename_i T r
  simp only [ac,adk,extV]
  split<;>rfl
 ·cases hx
theorem ao6 {C:Cfg}{ops:Array Oper}{o:Oper}{e:Env}{st st':List BX}{v:SV} (hx:acq o.op=true) (h:StepV C ops o e st v st'):o.guard=none/\∃ b,st'=st++[b]/\extV C.P o.op (opd e []) st.length=some (v,b):=by
 cases h with
 | val hg hac=>rw [ald hx] at hac;split at hac<;>cases hac
 | gval hg ht hb hac=>rw [ald hx] at hac;split at hac<;>cases hac
 | gcall hg ht hb hac=>rw [ald hx] at hac;split at hac<;>cases hac
 | gcallU hg ht hb hac=>rw [ald hx] at hac;split at hac<;>cases hac
 | gskip hg ht hb hac=>rw [ald hx] at hac;split at hac<;>cases hac
 | call hg hac=>rw [ald hx] at hac;split at hac<;>cases hac
 | upd hg hac=>
  rw [ald hx] at hac
  split at hac
  ·rename_i v' b he
   cases hac
   exact ⟨hg,b,rfl,he⟩
  ·cases hac
theorem avh {C:Cfg}{ops:Array Oper}{o:Oper}{e:Env}{st st':List BX}{v:SV}{n0:Nat} (hx:acq o.op=true) (h:StepV C ops o e st v st') (hn:n0<=st.length):st'.take n0=st.take n0:=by
 obtain ⟨_,b,rfl,_⟩:=ao6 hx h
 rw [List.take_append_of_le_length hn]
theorem af7 {P:Program}{T:TypeId}{a x:Operand}{ρ ρt ρf:Operand->SV}{st:List BX}{f:FuncId}{args:List SV} (h:ac P (.store T a x) ρ ρt ρf st=.call f args):False:=by
 simp only [ac,ads,adc,cond_eq_ite] at h
 repeat' split at h
 all_goals cases h
theorem ash {C:Cfg}{ops:Array Oper}{o:Oper}{e:Env}{st st':List BX}{v:SV}{n0:Nat} (hx:az9 n0 o e=true) (h:StepV C ops o e st v st'):st'.take n0=st.take n0:=by
 unfold az9 at hx
 split at hx
 case h_2=>cases hx
 rename_i T a x hop
 split at hx
 case h_2=>cases hx
 rename_i k p T' ha
 have hk:n0<=k:=Nat.le_of_ble_eq_true hx
 cases h with
 | val=>rfl
 | gval=>rfl
 | gcall=>rfl
 | upd hg hac=>
  rw [hop] at hac
  simp only [ac,ads,adc,ha,cond_eq_ite] at hac
  repeat' split at hac
  all_goals first
   | (cases hac;done)
   | (obtain ⟨_,_,rfl⟩:=Ac.upd.inj hac
      apply List.ext_getElem?
      intro i
      by_cases hi:i<n0
      ·rw [List.getElem?_take_of_lt hi,List.getElem?_take_of_lt hi,List.getElem?_set_ne (by omega)]
      ·rw [List.getElem?_eq_none (by simp;omega),List.getElem?_eq_none (by simp;omega)])
 | gskip=>rfl
 | gcallU hg ht hb hac=>
  exfalso
  rw [hop] at hac
  exact af7 hac
 | call hg hac=>
  exfalso
  rw [hop] at hac
  exact af7 hac
theorem awi:∀ (ks:List Nat) (bs st:List BX) (k:Nat),k∉ks->k<st.length->(abi ks bs st)[k]?=st[k]?:=by
 intro ks
 induction ks with
 | nil=>intro bs st k _ hk;simp [abi,List.getElem?_append_left hk]
 | cons x r ih=>
  intro bs st k hn hk
  cases bs with
  | nil=>rfl
  | cons b q=>
   have hkr:k∉r:=fun h=>hn (by simp [h])
   have hkx:k≠x:=fun h=>hn (by simp [h])
   simp only [abi]
   rw [ih q (st.set x b) k hkr (by simpa using hk),List.getElem?_set_ne (by omega)]
theorem ai9 {C:Cfg}{ops:Array Oper}{o:Oper}{e:Env}{st st':List BX}{v:SV}{k:Nat} (hk:k<st.length) (h:StepV C ops o e st v st') (hr:aib C o e st k=true):st'[k]?=st[k]?:=by
 unfold aib at hr
 cases h with
 | val=>rfl
 | gval=>rfl
 | gcall=>rfl
 | gskip=>rfl
 | gcallU hg=>rw [hg] at hr;simp at hr
 | upd hg hac=>
  rw [hg] at hr
  have hr:(match (none:Option (Nat×Bool)),ac C.P o.op (opd e []) (ρT e [] o.op true) (ρT e [] o.op false) st with | none,.call _ args=>!((aap st args).any (Nat.beq k)) | none,.upd _ _ _=>av1 o.op e k | _,_=>false)=true:=hr
  rw [hac] at hr
  simp only at hr
  unfold av1 at hr
  split at hr
  case h_3=>cases hr
  case h_2=>
   rename_i c hop
   split at hr
   case h_2=>cases hr
   rename_i x y hcal hargs
   rw [hop] at hac
   simp only [ac,aht,hcal,hargs] at hac
   split at hac
   case h_2=>cases hac
   rename_i x' y' T T' he1 he2
   simp only [List.cons.injEq,and_true] at he1
   obtain ⟨rfl,rfl⟩:=he1
   cases hT:Nat.beq T T' with
   | false=>rw [hT] at hac;cases hac
   | true=>
   rw [hT] at hac
   simp only [cond_true] at hac
   have put:∀ (j:Nat) (b:BX),(!(Nat.beq j k))=true->(st.set j b)[k]?=st[k]?:=fun j b hb=>List.getElem?_set_ne (fun e=>by subst e;simp at hb)
   have app:∀ (b:BX),(st++[b])[k]?=st[k]?:=fun b=>List.getElem?_append_left hk
   unfold acw at hac
   split at hac
   case h_2=>cases hac
   simp only [cond_eq_ite] at hac
   split at hac
   case isFalse=>cases hac
   split at hr
   all_goals first
    | (cases hr;done)
    | (rename_i hx
       rw [hx] at hac
       (try dsimp only at hac)
       repeat' split at hac
       all_goals first
        | (cases hac;done)
        | contradiction
        | (obtain ⟨_,_,rfl⟩:=Ac.upd.inj hac;exact put _ _ hr)
        | (obtain ⟨_,_,rfl⟩:=Ac.upd.inj hac;exact app _)
        | (obtain ⟨_,_,rfl⟩:=Ac.upd.inj hac;rfl))
  rename_i T a x hop
  split at hr
  case h_2=>cases hr
  rename_i i hroot
  rw [Bool.and_eq_true] at hr
  obtain ⟨hr,hr2⟩:=hr
  have hne:i≠k:=fun h=>by
   subst h
   rw [Nat.beq_refl] at hr;cases hr
  rw [hop] at hac
  unfold aon at hroot
  split at hroot
  all_goals (try cases hroot)
  all_goals
   rename_i ha
   simp only [ac,ads,adc,ha,cond_eq_ite] at hac
   repeat' split at hac
   all_goals first
    | (cases hac;done)
    | (obtain ⟨_,_,rfl⟩:=Ac.upd.inj hac
       rw [List.getElem?_set_ne hne];done)
    | (obtain ⟨_,_,rfl⟩:=Ac.upd.inj hac
       rw [List.getElem?_set_ne hne,List.getElem?_set_ne (fun ej=>by subst ej;simp_all [Nat.beq_refl])])
 | @call f args _ _ _ _ _ _ hg hac _ _ _ _ _=>
  rw [hg] at hr
  have hr:(match (none:Option (Nat×Bool)),ac C.P o.op (opd e []) (ρT e [] o.op true) (ρT e [] o.op false) st with | none,.call _ args=>!((aap st args).any (Nat.beq k)) | none,.upd _ _ _=>av1 o.op e k | _,_=>false)=true:=hr
  rw [hac] at hr
  simp only [Bool.not_eq_true'] at hr
  refine awi _ _ _ _ (fun hm=>?_) hk
  have:(aap st args).any (Nat.beq k)=true:=List.any_eq_true.2 ⟨k,hm,Nat.beq_refl k⟩
  rw [hr] at this;cases this
theorem atp {P:Program}{T:TypeId}{a:SV}{k:Nat}{st st':List BX} (hr:aon a=some k) (h:st'[k]?=st[k]?):aep P T st' a=aep P T st a:=by
 unfold aon at hr
 split at hr
 all_goals (try cases hr)
 ·simp only [aep,h]
 ·simp only [aep,h]
 ·simp only [aep,af8,h]
theorem aje {P:Program}{p:LM}{k:Nat}{st st':List BX} (hr:a0r p=some k) (h:st'[k]?=st[k]?):rdAc P p st'=rdAc P p st:=by
 unfold a0r at hr
 unfold rdAc
 cases hq:p.q with
 | none=>rw [hq] at hr;exact atp hr h
 | some key=>
  rw [hq] at hr
  simp only at hr
  split at hr
  ·rename_i k' ha
   cases hr
   simp only
   rw [ha]
   simp only [acm,h]
  ·cases hr
theorem a0f (es:List (PV×PV)) (k key z:PV):(PV.mget (PV.mput es k ((PV.mget es k).getD z)) key).getD z=(PV.mget es key).getD z:=by
 cases hf:PV.mget es k with
 | some y=>
  have:∀ (es:List (PV×PV)),PV.mget es k=some y->PV.mput es k y=es:=by
   intro es
   induction es with
   | nil=>intro h;cases h
   | cons e r ih=>
    intro h
    unfold PV.mput
    cases hb:ai0 k e.1 with
    | true=>simp [PV.mget,hb] at h;subst h;rfl
    | false=>
     simp only [cond_false]
     rw [ih (by simpa [PV.mget,hb] using h)]
  simp only [Option.getD_some]
  rw [this es hf]
 | none=>
  have:∀ (es:List (PV×PV)) (y:PV),PV.mget es k=none->PV.mput es k y=es++[(k,y)]:=by
   intro es y
   induction es with
   | nil=>intro _;rfl
   | cons e r ih=>
    intro h
    unfold PV.mput
    cases hb:ai0 k e.1 with
    | true=>simp [PV.mget,hb] at h
    | false=>
     simp only [cond_false]
     rw [ih (by simpa [PV.mget,hb] using h)];rfl
  simp only [Option.getD_none]
  rw [this es z hf]
  unfold PV.mget
  rw [List.find?_append]
  cases es.find? fun e=>ai0 key e.1 with
  | some e=>rfl
  | none=>
   cases hb:ai0 key k<;>simp [hb]
theorem aed {P:Program}{T:TypeId}{a x:Operand}{ρ ρt ρf:Operand->SV}{st:List BX}{f:FuncId}{args:List SV} (h:ac P (.mapEntry T a x) ρ ρt ρf st=.call f args):False:=by
 simp only [ac,ab4,cond_eq_ite] at h
 repeat' split at h
 all_goals cases h
theorem as9 {C:Cfg}{ops:Array Oper}{o:Oper}{e:Env}{st st':List BX}{v:SV}{p:LM} (hx:aph o.op=true) (hq:p.q.isSome=true) (h:StepV C ops o e st v st'):rdAc C.P p st'=rdAc C.P p st:=by
 unfold aph at hx
 split at hx
 case h_2=>cases hx
 rename_i T m x hop
 cases h with
 | val=>rfl
 | gval=>rfl
 | gcall=>rfl
 | gskip=>rfl
 | gcallU hg ht hb hac=>rw [hop] at hac;exact (aed hac).elim
 | call hg hac=>rw [hop] at hac;exact (aed hac).elim
 | upd hg hac=>
  rw [hop] at hac
  simp only [ac] at hac
  unfold ab4 at hac
  split at hac
  ·rename_i K E hT
   simp only [cond_eq_ite] at hac
   split at hac
   case isFalse=>cases hac
   split at hac
   case h_2=>cases hac
   rename_i b hb
   split at hac
   case h_2=>cases hac
   rename_i K' E' es hk
   split at hac
   case isFalse=>cases hac
   rename_i hE
   simp only [Bool.and_eq_true] at hE
   have:=Nat.eq_of_beq_eq_true hE.1;subst this
   have:=Nat.eq_of_beq_eq_true hE.2;subst this
   obtain ⟨_,_,rfl⟩:=Ac.upd.inj hac
   obtain ⟨key,hkey⟩:=Option.isSome_iff_exists.1 hq
   unfold rdAc
   rw [hkey]
   simp only
   cases hp:p.a with
   | mref b'=>
    by_cases hbb:b'=b
    ·subst hbb
     have hlt:=(List.getElem?_eq_some_iff.1 hk).1
     unfold acm
     split
     ·rename_i K2 E2 hT2
      cases hc:(keyT C.P K2&&isOf C.P K2 key&&ab5 C.P E2&&isOf C.P E2 (abd C.P 12 E2)) with
      | false=>rfl
      | true=>
       simp only [cond_true]
       rw [List.getElem?_set_self hlt,hk]
       simp only
       cases hKE:(Nat.beq K2 K&&Nat.beq E2 E) with
       | false=>rfl
       | true=>
        simp only [Bool.and_eq_true] at hKE
        have:=Nat.eq_of_beq_eq_true hKE.2;subst this
        simp only [cond_true]
        unfold ah9
        simp only [a0f]
        rfl
     ·rfl
    ·simp only [acm,List.getElem?_set_ne (show b≠b' from fun h=>hbb h.symm)]
   | _=>rfl
  ·cases hac
theorem abh {L:Array Bool}{j i:Nat} (hj:j<L.size):(L.setIfInBounds j true).getD i false=if i=j then true else L.getD i false:=by
 by_cases h:i=j
 ·subst h
  simp [hj]
 ·have:j≠i:=fun e=>h e.symm
  simp [h,Array.getElem?_setIfInBounds_ne this]
theorem afm (n i:Nat):(Array.replicate n false).getD i false=false:=by
 by_cases h:i<n<;>simp [h]
def envL (ops:Array Oper) (v:Nat->SV) (e:Env) (L:Array Bool):Env:=fun t=>match ace t ops.toList 0 with | some i=>if L.getD i false=true then v i else e t | none=>e t
def unl (n:Nat) (L:Array Bool):Nat:=((List.range n).filter fun i=>!L.getD i false).length
theorem aza {p q:Nat->Bool}{j:Nat} (hq:∀ i,q i=true->p i=true) (h1:p j=true) (h2:q j=false):∀ {l:List Nat},j∈l->(l.filter q).length<(l.filter p).length:=by
 intro l
 have le:∀ l:List Nat,(l.filter q).length<=(l.filter p).length:=by
  intro l
  induction l with
  | nil=>simp
  | cons x r ih=>
   simp only [List.filter_cons]
   cases hx:q x with
   | true=>simp [hq x hx];exact ih
   | false=>cases hp:p x<;>simp<;>omega
 induction l with
 | nil=>intro h;cases h
 | cons x r ih=>
  intro h
  simp only [List.filter_cons]
  rcases List.mem_cons.1 h with rfl | h
  ·simp [h1,h2];have:=le r;omega
  ·have:=ih h
   cases hx:q x with
   | true=>simp [hq x hx];exact this
   | false=>cases hp:p x<;>simp<;>omega
section
variable {Γ:Ctx}
def aow (ops:Array Oper) (i:Nat):Prop:=∃ o,ops[i]?=some o/\(mkDI ops).upd i o=true
def aeu (ops:Array Oper) (i:Nat):Prop:=∃ o,ops[i]?=some o/\acq o.op=true
def NUpd (ops:Array Oper) (i:Nat):Prop:=∃ o,ops[i]?=some o/\(mkDI ops).upd i o=true/\acq o.op=false
theorem ao7 {d:DI}{j:Nat}{o:Oper} (h:acq o.op=true):d.upd j o=true:=by
 unfold DI.upd
 have:azo o.op=true:=by
  unfold acq at h
  split at h
  ·rename_i hop;rw [hop];rfl
  ·rename_i hop;rw [hop];rfl
  ·rename_i hop;rw [hop];rfl
  ·cases h
 rw [this];rfl
structure Part (ops:Array Oper) (s:Nat->List BX) (L:Array Bool) (k:Nat) (σ:List BX):Prop where
 len:(s k).length<=σ.length
 pre:∀ p,p<(s k).length->σ[p]?=(s k)[p]?
 fil:∀ i b,k<=i->aeu ops i->L.getD i false=true->s (i+1)=s i++[b]->σ[(s i).length]?=some b
 hol:∀ p,(s k).length<=p->p<σ.length->σ[p]?=some .hole∨∃ i,k<=i/\aeu ops i/\L.getD i false=true/\(s i).length=p
 top:σ.length=(s k).length∨∃ i,k<=i/\aeu ops i/\L.getD i false=true/\σ.length=(s i).length+1
section
variable {ops:Array Oper}{s:Nat->List BX} (hE:∀ i,aeu ops i->∃ b,s (i+1)=s i++[b]) (hN:∀ i,i<ops.size->¬aow ops i->s (i+1)=s i)
include hE hN
theorem arv {i:Nat} (hi:i<ops.size) (hn:¬NUpd ops i):(aeu ops i/\∃ b,s (i+1)=s i++[b])∨(¬aeu ops i/\s (i+1)=s i):=by
 have ho:ops[i]?=some ops[i]:=Array.getElem?_eq_getElem hi
 cases hx:acq ops[i].op with
 | true=>have he:aeu ops i:=⟨_,ho,hx⟩
         exact Or.inl ⟨he,hE i he⟩
 | false=>
  refine Or.inr ⟨fun he=>?_,hN i hi fun hu=>?_⟩
  ·obtain ⟨o,h1,h2⟩:=he
   rw [ho] at h1;cases h1;rw [hx] at h2;cases h2
  ·obtain ⟨o,h1,h2⟩:=hu
   rw [ho] at h1;cases h1
   exact hn ⟨_,ho,h2,hx⟩
theorem ajb {p q:Nat} (hpq:p<=q) (hq:q<=ops.size) (hno:∀ i,p<=i->i<q->¬NUpd ops i):∃ τ,s q=s p++τ:=by
 induction q with
 | zero=>have:p=0:=by omega
         subst this;exact ⟨[],by simp⟩
 | succ q ih=>
  by_cases he:p=q+1
  ·subst he;exact ⟨[],by simp⟩
  ·obtain ⟨τ,h⟩:=ih (by omega) (by omega) (fun i h1 h2=>hno i h1 (by omega))
   rcases arv hE hN (i:=q) (by omega) (hno q (by omega) (by omega)) with ⟨_,b,h1⟩ | ⟨_,h1⟩
   ·exact ⟨τ++[b],by rw [h1,h];simp⟩
   ·exact ⟨τ,by rw [h1,h]⟩
theorem akg {p q x:Nat} (hpq:p<=q) (hq:q<=ops.size) (hno:∀ i,p<=i->i<q->¬NUpd ops i) (h1:(s p).length<=x) (h2:x<(s q).length):∃ i,p<=i/\i<q/\aeu ops i/\(s i).length=x:=by
 induction q with
 | zero=>have:p=0:=by omega
         subst this;omega
 | succ q ih=>
  by_cases he:p=q+1
  ·subst he;omega
  ·have hno':∀ i,p<=i->i<q->¬NUpd ops i:=fun i h1 h2=>hno i h1 (by omega)
   rcases arv hE hN (i:=q) (by omega) (hno q (by omega) (by omega)) with ⟨hx,b,h3⟩ | ⟨_,h3⟩
   ·rw [h3] at h2
    simp at h2
    by_cases hxx:x<(s q).length
    ·obtain ⟨i,q1,q2,q3⟩:=ih (by omega) (by omega) hno' hxx
     exact ⟨i,q1,by omega,q3⟩
    ·exact ⟨q,by omega,by omega,hx,by omega⟩
   ·rw [h3] at h2
    obtain ⟨i,q1,q2,q3⟩:=ih (by omega) (by omega) hno' h2
    exact ⟨i,q1,by omega,q3⟩
theorem apy {i q:Nat} (hiq:i<q) (hq:q<=ops.size) (hno:∀ i',i<i'->i'<q->¬NUpd ops i') {b:BX} (h:s (i+1)=s i++[b]):(s q)[(s i).length]?=some b/\(s i).length<(s q).length:=by
 obtain ⟨τ,ht⟩:=ajb hE hN (p:=i+1) (q:=q) (by omega) hq (fun i' h1 h2=>hno i' (by omega) h2)
 rw [ht,h]
 simp
theorem afj {L:Array Bool}{k j:Nat}{σ:List BX} (P:Part ops s L k σ) (hkj:k<=j) (hj:j<=ops.size) (hno:∀ i,k<=i->i<j->¬NUpd ops i) (hall:∀ i,k<=i->i<j->aeu ops i->L.getD i false=true) (hnone:∀ i,j<=i->aeu ops i->L.getD i false=false):σ=s j:=by
 have lt:∀ i,k<=i->aeu ops i->L.getD i false=true->i<j:=fun i h1 h2 h3=>by
  rcases Nat.lt_or_ge i j with h | h
  ·exact h
  ·have:=hnone i h h2;rw [this] at h3;cases h3
 have hlen:σ.length=(s j).length:=by
  rcases P.top with h | ⟨i,h1,h2,h3,h4⟩
  ·by_cases hc:(s k).length<(s j).length
   ·exfalso
    obtain ⟨i,q1,q2,q3,q4⟩:=akg hE hN hkj hj hno (Nat.le_refl _) hc
    obtain ⟨b,hb⟩:=hE i q3
    have:=P.fil i b q1 q3 (hall i q1 q2 q3) hb
    have:=(List.getElem?_eq_some_iff.1 this).1
    omega
   ·obtain ⟨τ,ht⟩:=ajb hE hN hkj hj hno
    have:(s j).length=(s k).length+τ.length:=by rw [ht];simp
    omega
  ·have hij:=lt i h1 h2 h3
   obtain ⟨b,hb⟩:=hE i h2
   have hlt:=(apy hE hN hij hj (fun i' q1 q2=>hno i' (by omega) q2) hb).2
   by_cases hc:(s i).length+1<(s j).length
   ·exfalso
    have hb':(s (i+1)).length=(s i).length+1:=by rw [hb];simp
    obtain ⟨i',q1,q2,q3,q4⟩:=akg hE hN (p:=i+1) (q:=j) (by omega) hj (fun i' q1 q2=>hno i' (by omega) q2) (x:=(s i).length+1) (by omega) hc
    obtain ⟨b',hb2⟩:=hE i' q3
    have:=P.fil i' b' (by omega) q3 (hall i' (by omega) q2 q3) hb2
    have:=(List.getElem?_eq_some_iff.1 this).1
    omega
   ·omega
 obtain ⟨τ,ht⟩:=ajb hE hN hkj hj hno
 apply List.ext_getElem?
 intro p
 by_cases h1:p<(s k).length
 ·rw [P.pre p h1,ht,List.getElem?_append_left h1]
 ·by_cases h2:p<(s j).length
  ·obtain ⟨i,q1,q2,q3,q4⟩:=akg hE hN hkj hj hno (by omega) h2
   obtain ⟨b,hb⟩:=hE i q3
   have e1:=P.fil i b q1 q3 (hall i q1 q2 q3) hb
   have e2:=(apy hE hN q2 hj (fun i' q1' q2'=>hno i' (by omega) q2') hb).1
   rw [q4] at e1 e2
   rw [e1,e2]
  ·rw [List.getElem?_eq_none (by omega),List.getElem?_eq_none (by omega)]
theorem a0n {L L':Array Bool}{k j:Nat}{σ:List BX} (P:Part ops s L k σ) (hkj:k<=j) (hj:j<ops.size) (hno:∀ i,k<=i->i<j->¬NUpd ops i) (hnoL:∀ i,k<=i->aeu ops i->L.getD i false=true->∀ i',k<=i'->i'<i->¬NUpd ops i')
 (hx:aeu ops j) {b:BX} (hb:s (j+1)=s j++[b]) (hj0:L.getD j false=false) (hL:∀ i,L'.getD i false=if i=j then true else L.getD i false):
 (∃ n,(s j).length=(σ++List.replicate n BX.hole).length/\Part ops s L' k (σ++List.replicate n .hole++[b]))∨(σ[(s j).length]?=some .hole/\Part ops s L' k (σ.set (s j).length b)):=by
 obtain ⟨τ,ht⟩:=ajb hE hN hkj (by omega) hno
 have hlj:(s k).length<=(s j).length:=by rw [ht];simp
 have hLt:∀ i,L.getD i false=true->L'.getD i false=true:=fun i h=>by rw [hL];split<;>simp_all
 have hLj:L'.getD j false=true:=by rw [hL];simp
 -- other listed ones stand elsewhere
 have apart:∀ i,k<=i->aeu ops i->L.getD i false=true->(s i).length≠(s j).length:=by
  intro i h1 h2 h3 he
  have hne:i≠j:=fun hh=>by subst hh;rw [hj0] at h3;cases h3
  have hi:i<ops.size:=by obtain ⟨o,ho,_⟩:=h2;exact (Array.getElem?_eq_some_iff.1 ho).1
  rcases Nat.lt_or_gt_of_ne hne with h | h
  ·obtain ⟨b',hb'⟩:=hE i h2
   have:=(apy hE hN h (by omega) (fun i' q1 q2=>hno i' (by omega) q2) hb').2
   omega
  ·have:=(apy hE hN h (by omega) (fun i' q1 q2=>hnoL i h1 h2 h3 i' (by omega) q2) hb).2
   omega
 by_cases hc:(s j).length<σ.length
 ·refine Or.inr ⟨?_,⟨by simpa using P.len,fun p hp=>?_,fun i b' h1 h2 h3 h4=>?_,fun p h1 h2=>?_,?_⟩⟩
  ·rcases P.hol _ hlj hc with h | ⟨i,h1,h2,h3,h4⟩
   ·exact h
   ·exact absurd h4 (apart i h1 h2 h3)
  ·rw [List.getElem?_set_ne (by omega)];exact P.pre p hp
  ·by_cases hij:i=j
   ·subst hij
    rw [hb] at h4
    have:b=b':=by simpa using h4
    rw [List.getElem?_set_self hc,this]
   ·have h3':L.getD i false=true:=by rw [hL,if_neg hij] at h3;exact h3
    rw [List.getElem?_set_ne (fun h=>apart i h1 h2 h3' h.symm)]
    exact P.fil i b' h1 h2 h3' h4
  ·by_cases hp:p=(s j).length
   ·exact Or.inr ⟨j,hkj,hx,hLj,hp.symm⟩
   ·rw [List.getElem?_set_ne (by omega)]
    rcases P.hol p h1 (by simpa using h2) with h | ⟨i,q1,q2,q3,q4⟩
    ·exact Or.inl h
    ·exact Or.inr ⟨i,q1,q2,hLt i q3,q4⟩
  ·rcases P.top with h | ⟨i,q1,q2,q3,q4⟩
   ·exact Or.inl (by simpa using h)
   ·exact Or.inr ⟨i,q1,q2,hLt i q3,by simpa using q4⟩
 ·refine Or.inl ⟨(s j).length-σ.length,by simp;omega,⟨?_,fun p hp=>?_,fun i b' h1 h2 h3 h4=>?_,fun p h1 h2=>?_,Or.inr ⟨j,hkj,hx,hLj,by simp;omega⟩⟩⟩
  ·have:=P.len;simp;omega
  ·have:=P.len
   rw [List.append_assoc,List.getElem?_append_left (by omega)];exact P.pre p hp
  ·by_cases hij:i=j
   ·subst hij
    rw [hb] at h4
    have:b=b':=by simpa using h4
    rw [List.getElem?_append_right (by simp;omega)]
    have e:(s i).length-(σ++List.replicate ((s i).length-σ.length) BX.hole).length=0:=by simp;omega
    rw [e,this];rfl
   ·have h3':L.getD i false=true:=by rw [hL,if_neg hij] at h3;exact h3
    have e:=P.fil i b' h1 h2 h3' h4
    have hlt:=(List.getElem?_eq_some_iff.1 e).1
    rw [List.append_assoc,List.getElem?_append_left hlt];exact e
  ·by_cases hp:p<σ.length
   ·rw [List.append_assoc,List.getElem?_append_left hp]
    rcases P.hol p h1 hp with h | ⟨i,q1,q2,q3,q4⟩
    ·exact Or.inl h
    ·exact Or.inr ⟨i,q1,q2,hLt i q3,q4⟩
   ·by_cases hp2:p<(s j).length
    ·refine Or.inl ?_
     rw [List.append_assoc,List.getElem?_append_right (by omega),List.getElem?_append_left (by simp;omega)]
     rw [List.getElem?_replicate,if_pos (by omega)]
    ·refine Or.inr ⟨j,hkj,hx,hLj,?_⟩
     simp at h2;omega
end
theorem a6s {C:Cfg} (hP:C.P=Γ.P) (hn:Γ.n=C.n) {ops:Array Oper}{i:Nat}{o:Oper} (ho:ops[i]?=some o) {e eF:Env}{k:Nat}{v:SV}{b:BX} (hg:o.guard=none) (hext:extV C.P o.op (opd e []) k=some (v,b)) (hd:akz C.n o.dst=true)
 (hle:∀ t,e t=.undef∨e t=eF t) {σ σ':List BX}{a:Act}{w:World} (hrel:Rel Γ eF σ a w) (hst:aov Γ.np σ k b σ') (hc:∀ d,o.dst=some d->awf eF d)
 (next:Act->World->Prop) (Q:Exit->Act->World->Prop) (hnext:(∀ u want x,v≠.gd u want x)->∀ a' w',Rel Γ (put eF o.dst v) σ' a' w'->next a' w'):wpOp Γ.P ops Q i next a w:=by
 obtain ⟨D,ow,μ,hw,hs⟩:=hrel
 have hse:Slots Γ D ow μ e σ a w:=⟨hs.size,hs.defers,fun t=>by
  rcases hle t with h | h
  ·rw [h];exact .undef
  ·rw [h];exact hs.slot t⟩
 unfold wpOp
 simp only [ho]
 have hρ:∀ x,SRep Γ.P D w ow μ σ (opd e [] x) (a.eval x):=fun x=>abm hse [] (fun _ hx=>by cases hx) x
 have hw1:Region.wanted o (yielded ops a.tmps)=true:=by simp [Region.wanted,hg]
 simp only [hw1,if_true]
 refine Or.inl ?_
 unfold Oper.wp
 rw [hP] at hext
 have hres:=ay6 hw hρ o hext hst
 have hng:∀ t want x,v≠.gd t want x:=by
  intro t want x hv
  obtain ⟨u,w',D',ow',μ',_,_,_,hv'⟩:=hres
  subst hv;cases hv'
 exact aqg hn hs hd hc hres v (fun _ _ _ _ _ h=>h.slot) (fun t want x hv=>absurd hv (hng t want x)) next Q (hnext hng)
theorem a00 {eF:Env}{σ:List BX}{a:Act}{w:World} (n:Nat) (h:Rel Γ eF σ a w):Rel Γ eF (σ++List.replicate n .hole) a w:=by
 obtain ⟨D,ow,μ,hw,hs⟩:=h
 obtain ⟨h1,h2⟩:=WRel.pushHoles n hw
 refine ⟨D,ow,μ,h1,⟨hs.size,hs.defers,fun t=>?_⟩⟩
 have:=hs.slot t
 revert this
 cases eF t with
 | gd u want x=>exact fun hh=>⟨fun q=>h2 (hh.1 q),hh.2⟩
 | _=>exact fun hh=>h2 hh
structure DInv (Γ:Ctx) (ops:Array Oper) (N n0:Nat) (v:Nat->SV) (s:Nat->List BX) (e:Env) (L:Array Bool) (a:Act) (w:World):Prop where
 size:L.size=ops.size
 down:Down ops L
 gd:∀ t u want x,envL ops v e L t=.gd u want x->∃ g o,L.getD g false=true/\ops[g]?=some o/\o.dst=some u
 lt:∀ i,L.getD i false=true->i<N
 k:∃ k σ,k<=N/\(∀ i,i<k->aow ops i->L.getD i false=true)/\(∀ i,k<=i->NUpd ops i->L.getD i false=false)/\n0<=(s k).length/\Part ops s L k σ/\Rel Γ (envL ops v e L) σ a w
theorem axv {R:Type}{C:Cfg} (hC:aai C) (hP:C.P=Γ.P) (hn:Γ.n=C.n) {ops:Array Oper} (hd:aqz Γ.P ops=true) {e:Env}{st:List BX}{K:Env->List BX->Option R}{X:SV->List BX->Option R}{r:R} (h:runD C (mkDI ops) ops st.length ops.toList 0 e st [] K X=some r)
 (hng:∀ t u want x,e t≠.gd u want x) {Q:Exit->Act->World->Prop} (hK:∀ e' st' a' w',K e' st'=some r->Rel Γ e' st' a' w'->Q .normal a' w') (hX:∀ s st' v a' w',X s st'=some r->PRel Γ s st' v a' w'->Q (.panic [{ v,recovered:=false }]) a' w') (a:Act) (w:World) (hrel:Rel Γ e st a w):
 wpAny Γ.P .any ops Q ops.size (Array.replicate ops.size false) a w:=by
 simp only [aqz,Bool.and_eq_true] at hd
 obtain ⟨⟨_,hedge⟩,hnd⟩:=hd
 have hnd:=art hnd
 have hedge:=aq1 hedge
 obtain ⟨N,v,s0,E,LK,hs0',hE0,hLK0,hNle,hstep0,hk⟩:=axw hC ops.toList 0 e st [] h
 have hlen:ops.toList.length=ops.size:=by simp
 rw [hlen] at hNle
 simp only [Nat.zero_add,hlen] at hstep0 hk
 -- the states behind a panic are of no account
 obtain ⟨s,hsN,hsE,hsU⟩:∃ s:Nat->List BX,(∀ i,i<=N->s i=s0 i)/\(∀ i,N<=i->aeu ops i->s (i+1)=s i++[.hole])/\(∀ i,N<=i->¬aeu ops i->s (i+1)=s i):=by
  refine ⟨fun i=>if i<=N then s0 i else s0 N++((List.range (i-N)).filter fun d=>(ops[N+d]?).any fun o=>acq o.op).map fun _=>.hole,fun i hi=>by simp [hi],fun i hi ⟨o,ho,hx⟩=>?_,fun i hi hx=>?_⟩
  ·simp only [show ¬(i+1<=N) by omega,if_false,show i+1-N=(i-N)+1 by omega,List.range_succ,List.filter_append,List.map_append]
   have e1:(ops[N+(i-N)]?).any (fun o=>acq o.op)=true:=by rw [show N+(i-N)=i by omega,ho];simp [hx]
   simp only [List.filter_cons,e1,if_true,List.filter_nil,List.map_cons,List.map_nil]
   by_cases hle:i<=N
   ·have:i=N:=by omega
    subst this
    simp
   ·simp only [hle,if_false,List.append_assoc]
  ·simp only [show ¬(i+1<=N) by omega,if_false,show i+1-N=(i-N)+1 by omega,List.range_succ,List.filter_append,List.map_append]
   have e1:(ops[N+(i-N)]?).any (fun o=>acq o.op)=false:=by
    rw [show N+(i-N)=i by omega]
    cases ho:ops[i]? with
    | none=>rfl
    | some o=>
         cases hb:acq o.op with
         | true=>exact absurd ⟨o,ho,hb⟩ hx
         | false=>simp [hb]
   simp only [List.filter_cons,e1,List.filter_nil,List.map_nil,List.append_nil,Bool.false_eq_true,if_false]
   by_cases hle:i<=N
   ·have:i=N:=by omega
    subst this
    simp
   ·simp only [hle,if_false]
 have hs0:s 0=st:=(hsN 0 (by omega)).trans hs0'
 have hstep:∀ j o,j<N->ops[j]?=some o->DStep C (mkDI ops) ops st.length j o (E j) (s j) (v j) (s (j+1)) (LK j) (LK (j+1))/\E (j+1)=put (E j) o.dst (v j):=by
  intro j o hj ho
  have:=hstep0 j o hj (by simpa using ho)
  rw [hsN j (by omega),hsN (j+1) (by omega)]
  simpa using this
 have hLK:∀ p i j,i<=j->j<=N->p∈LK i->p∈LK j:=by
  intro p i j hij
  induction j with
  | zero=>intro _ hp;have:i=0:=by omega
          subst this;exact hp
  | succ j ih=>
   intro hj hp
   by_cases he:i=j+1
   ·subst he;exact hp
   ·have ho:ops[j]?=some ops[j]:=Array.getElem?_eq_getElem (by omega)
    exact (hstep j _ (by omega) ho).1.sub p (ih (by omega) (by omega) hp)
 have hLog:∀ j,j<=N->∀ p,p∈LK j->p.u=true->∃ q o,q<j/\ops[q]?=some o/\p.j=q/\(mkDI ops).upd q o=true/\p.f=fun k=>aib C o ((mkDI ops).mask q (E q)) (s q) k:=by
  intro j
  induction j with
  | zero=>intro _ p hp;rw [hLK0] at hp;cases hp
  | succ j ih=>
   intro hj p hp hu
   have ho:ops[j]?=some ops[j]:=Array.getElem?_eq_getElem (by omega)
   rcases (hstep j _ (by omega) ho).1.log p hp hu with h | ⟨h1,h2,h3⟩
   ·obtain ⟨q,o,q1,q2⟩:=ih (by omega) p h hu
    exact ⟨q,o,by omega,q2⟩
   ·exact ⟨j,_,by omega,ho,h1,h2,h3⟩
 have hwr:∀ j o t,ops[j]?=some o->o.dst=some t->ace t ops.toList 0=some j:=by
  intro j o t ho hdst
  have:=a1q (k:=0) hnd (by simpa using ho) hdst
  simpa using this
 have hwr':∀ t i,ace t ops.toList 0=some i->∃ o,ops[i]?=some o/\o.dst=some t:=by
  intro t i hw
  obtain ⟨_,o,h1,h2⟩:=auw hw
  exact ⟨o,by simpa using h1,h2⟩
 -- the evaluator's slots
 have hE:∀ j,j<=N->∀ t,E j t=match ace t ops.toList 0 with | some i=>if i<j then v i else e t | none=>e t:=by
  intro j
  induction j with
  | zero=>intro _ t;rw [hE0];split<;>simp
  | succ j ih=>
   intro hj t
   have ho:ops[j]?=some ops[j]:=Array.getElem?_eq_getElem (by omega)
   rw [(hstep j _ (by omega) ho).2]
   have ih:=ih (by omega) t
   cases hdst:ops[j].dst with
   | none=>
    simp only [put,ih]
    cases hw:ace t ops.toList 0 with
    | none=>rfl
    | some i=>
     simp only
     obtain ⟨o,h1,h2⟩:=hwr' t i hw
     have:i≠j:=fun hh=>by subst hh;rw [ho] at h1;cases h1;rw [hdst] at h2;cases h2
     by_cases hij:i<j
     ·rw [if_pos hij,if_pos (by omega)]
     ·rw [if_neg hij,if_neg (by omega)]
   | some d=>
    simp only [put,Env.set]
    cases hb:Nat.beq t d with
    | true=>
     have:=Nat.eq_of_beq_eq_true hb;subst this
     rw [hwr j _ t ho hdst]
     simp
    | false=>
     simp only [cond_false,ih]
     cases hw:ace t ops.toList 0 with
     | none=>rfl
     | some i=>
      simp only
      obtain ⟨o,h1,h2⟩:=hwr' t i hw
      have:i≠j:=fun hh=>by
       subst hh;rw [ho] at h1;cases h1;rw [hdst] at h2;cases h2
       rw [Nat.beq_refl] at hb;cases hb
      by_cases hij:i<j
      ·rw [if_pos hij,if_pos (by omega)]
      ·rw [if_neg hij,if_neg (by omega)]
 have hE':∀ i,aeu ops i->∃ b,s (i+1)=s i++[b]:=by
  intro i hx
  by_cases hi:i<N
  ·obtain ⟨o,ho,hx⟩:=hx
   obtain ⟨_,_,_,_,hsv⟩:=(hstep i o hi ho).1.upd (ao7 hx)
   obtain ⟨_,b,h1,_⟩:=ao6 hx hsv
   exact ⟨b,h1⟩
  ·exact ⟨_,hsE i (by omega) hx⟩
 have hN':∀ i,i<ops.size->¬aow ops i->s (i+1)=s i:=by
  intro i hi hno
  have ho:ops[i]?=some ops[i]:=Array.getElem?_eq_getElem hi
  by_cases hiN:i<N
  ·refine ((hstep i _ hiN ho).1.non ?_).1
   cases hb:(mkDI ops).upd i ops[i] with
   | false=>rfl
   | true=>exact absurd ⟨_,ho,hb⟩ hno
  ·exact hsU i (by omega) (fun ⟨o,h1,h2⟩=>hno ⟨o,h1,ao7 h2⟩)
 have hnp:Γ.np<=st.length:=by obtain ⟨_,_,_,hw,_⟩:=hrel;exact hw.np
 -- where nothing is turned,the state stays
 have hsame:∀ p q,p<=q->q<=ops.size->(∀ i,p<=i->i<q->¬aow ops i)->s p=s q:=by
  intro p q hpq
  induction q with
  | zero=>intro _ _;have:p=0:=by omega
          subst this;rfl
  | succ q ih=>
   intro hq hno
   by_cases he:p=q+1
   ·subst he;rfl
   ·have ho:ops[q]?=some ops[q]:=Array.getElem?_eq_getElem (by omega)
    have hu:(mkDI ops).upd q ops[q]=false:=by
     cases hb:(mkDI ops).upd q ops[q] with
     | false=>rfl
     | true=>exact absurd ⟨_,ho,hb⟩ (hno q (by omega) (by omega))
    rw [ih (by omega) (by omega) (fun i h1 h2=>hno i h1 (by omega)),hN' q (by omega) (hno q (by omega) (by omega))]
 have htake:∀ p q,p<=q->q<=N->(∀ i o,p<=i->i<q->ops[i]?=some o->(mkDI ops).upd i o=true->acq o.op=true∨(mkDI ops).soft o=true)->(s p).take st.length=(s q).take st.length:=by
  intro p q hpq
  induction q with
  | zero=>intro _ _;have:p=0:=by omega
          subst this;rfl
  | succ q ih=>
   intro hq hno
   by_cases he:p=q+1
   ·subst he;rfl
   ·have ho:ops[q]?=some ops[q]:=Array.getElem?_eq_getElem (by omega)
    rw [ih (by omega) (by omega) (fun i o h1 h2=>hno i o h1 (by omega))]
    cases hu:(mkDI ops).upd q ops[q] with
    | false=>rw [((hstep q _ (by omega) ho).1.non hu).1]
    | true=>
     have hx:=hno q _ (by omega) (by omega) ho hu
     obtain ⟨_,h2,_,h4,h3⟩:=(hstep q _ (by omega) ho).1.upd hu
     rcases hx with hx | hx
     ·exact (avh hx h3 h2).symm
     ·exact (ash (h4 hx) h3).symm
 -- the end
 have hend:∀ L a w,DInv Γ ops N st.length v s e L a w->(∀ i,i<ops.size->L.getD i false=true)->Q .normal a w:=by
  intro L a w hi hall
  have hNe:N=ops.size:=by
   rcases Nat.lt_or_ge N ops.size with h | h
   ·have:=hi.lt N (hall N h);omega
   ·omega
  have hk:K (E ops.size) (s ops.size)=some r:=by
   rcases hk with ⟨_,hk⟩ | ⟨o,_,_,ho,_⟩
   ·rw [<-hNe,hsN N (Nat.le_refl _)];exact hk
   ·have:=(List.getElem?_eq_some_iff.1 ho).1;rw [hlen] at this;omega
  obtain ⟨k,σ,hk1,hk2,hk3,hk4,hpt,hr⟩:=hi.k
  have e1:σ=s ops.size:=afj hE' hN' hpt (by omega) (Nat.le_refl _) (fun i h1 h2 hu=>by
   have:=hk3 i h1 hu;rw [hall i h2] at this;cases this) (fun i _ h2 _=>hall i h2) (fun i h1 ⟨o,ho,_⟩=>by
   have:=(Array.getElem?_eq_some_iff.1 ho).1;omega)
  have e2:envL ops v e L=E ops.size:=by
   funext t
   rw [hE _ (by omega)]
   unfold envL
   cases hw:ace t ops.toList 0 with
   | none=>rfl
   | some i=>
    obtain ⟨o,h1,_⟩:=hwr' t i hw
    have hlt:i<ops.size:=(Array.getElem?_eq_some_iff.1 h1).1
    simp only [hall i hlt,if_pos hlt,if_true]
  rw [e1,e2] at hr
  exact hK _ _ _ _ hk hr
 have hready:∀ L,L.size=ops.size->Region.ready .any ops L=[]->∀ i,i<ops.size->L.getD i false=true:=by
  intro L hsz hr i
  induction i using Nat.strongRecOn with
  | _ i ih=>
   intro hi
   cases hb:L.getD i false with
   | true=>rfl
   | false=>
    have ho:ops[i]?=some ops[i]:=Array.getElem?_eq_getElem hi
    have hm:i∈Region.ready .any ops L:=mem_ready.2 ⟨by
     have hlt:i<L.size:=by omega
     simpa [hlt] using hb,_,ho,fun x hx hbx=>by
     have hlt:=hedge i _ (by simpa using ho) x hx hbx
     exact ih x.on (by omega) (by omega)⟩
    rw [hr] at hm;cases hm
 have main:∀ fuel L a w,DInv Γ ops N st.length v s e L a w->unl ops.size L<=fuel->wpAny Γ.P .any ops Q fuel L a w:=by
  intro fuel
  induction fuel with
  | zero=>
   intro L a w hi hu
   have hall:∀ i,i<ops.size->L.getD i false=true:=by
    intro i hlt
    cases hb:L.getD i false with
    | true=>rfl
    | false=>
     have:i∈(List.range ops.size).filter fun i=>!L.getD i false:=List.mem_filter.2 ⟨List.mem_range.2 hlt,by rw [hb];rfl⟩
     have:=List.length_pos_of_mem this
     unfold unl at hu;omega
   refine ⟨?_,hend L a w hi hall⟩
   cases hr:Region.ready .any ops L with
   | nil=>rfl
   | cons i r=>
    have hm:i∈Region.ready .any ops L:=by rw [hr];simp
    obtain ⟨h1,o,ho,_⟩:=mem_ready.1 hm
    have hlt:i<ops.size:=(Array.getElem?_eq_some_iff.1 ho).1
    have:=hall i hlt
    have hlt':i<L.size:=by rw [hi.size];exact hlt
    simp [hlt'] at this h1
    rw [this] at h1;cases h1
  | succ fuel ih=>
   intro L a w hi hu
   refine ⟨fun hr=>hend L a w hi (hready L hi.size hr),fun j hj=>?_⟩
   obtain ⟨hj1,o,ho,hpre⟩:=mem_ready.1 hj
   have hlt:j<ops.size:=(Array.getElem?_eq_some_iff.1 ho).1
   have hltL:j<L.size:=by rw [hi.size];exact hlt
   have hj0:L.getD j false=false:=by simpa [hltL] using hj1
   have hup:∀ i,Anc ops i j->L.getD i false=true:=fun i ha=>ayf hi.down ha (fun o' ho' x hx hb=>by rw [ho] at ho';cases ho';exact hpre x hx hb)
   have hdn:∀ i,Anc ops j i->L.getD i false=false:=fun i ha=>by
    cases hb:L.getD i false with
    | false=>rfl
    | true=>
     have:=ayf hi.down ha (hi.down i hb)
     rw [hj0] at this;cases this
   have hcmp:∀ i,(mkDI ops).cmp i j=true->i≠j->(i<j/\L.getD i false=true)∨(j<i/\L.getD i false=false):=by
    intro i hc hne
    unfold DI.cmp at hc
    cases hb:Nat.beq i j with
    | true=>exact absurd (Nat.eq_of_beq_eq_true hb) hne
    | false=>
     rw [hb] at hc
     simp only [cond_false] at hc
     cases hb2:Nat.blt i j with
     | true=>rw [hb2] at hc;obtain ⟨h1,h2⟩:=arn hc;exact Or.inl ⟨h1,hup i h2⟩
     | false=>rw [hb2] at hc;obtain ⟨h1,h2⟩:=arn hc;exact Or.inr ⟨h1,hdn i h2⟩
   obtain ⟨k,σ,hk1,hk2,hk3,hk4,hpt,hr⟩:=hi.k
   have hjN:j<=N:=by
    rcases Nat.lt_or_ge N j with h | h
    ·rcases hk with ⟨hNe,_⟩ | ⟨o',sp,st',ho',hp,_⟩
     ·omega
     ·have h1:=ad0 hp.last j o (by simpa [mkDI] using ho)
      simp only [Nat.zero_add,Bool.or_eq_true] at h1
      rcases h1 with h1 | h1
      ·have:=Nat.le_of_ble_eq_true h1;omega
      ·have:=hi.lt N (hup N (arn h1).2);omega
    ·exact h
   have hEL:∀ t i,ace t ops.toList 0=some i->i≠j->(mkDI ops).cmp i j=true->E j t=envL ops v e L t:=by
    intro t i hw hne hc
    rw [hE j hjN]
    unfold envL
    simp only [hw]
    rcases hcmp i hc hne with ⟨h1,h2⟩ | ⟨h1,h2⟩
    ·rw [if_pos h1,if_pos h2]
    ·rw [if_neg (by omega),if_neg (by rw [h2];decide)]
   have hle:∀ t,(mkDI ops).mask j (E j) t=.undef∨(mkDI ops).mask j (E j) t=envL ops v e L t:=by
    intro t
    unfold DI.mask
    show (match ace t ops.toList 0 with | some i=>(bif (mkDI ops).cmp i j then E j t else .undef) | none=>E j t)=_∨(match ace t ops.toList 0 with | some i=>(bif (mkDI ops).cmp i j then E j t else .undef) | none=>E j t)=_
    cases hw:ace t ops.toList 0 with
    | none=>
     refine Or.inr ?_
     simp only
     rw [hE j (by omega)]
     unfold envL
     simp only [hw]
    | some i=>
     simp only
     cases hc:(mkDI ops).cmp i j with
     | false=>exact Or.inl rfl
     | true=>
      refine Or.inr ?_
      simp only [cond_true]
      by_cases hne:i=j
      ·subst hne
       rw [hE i (by omega)]
       unfold envL
       simp only [hw]
       rw [if_neg (by omega),if_neg (by rw [hj0];decide)]
      ·exact hEL t i hw hne hc
   -- where the state stands
   have hAk:(mkDI ops).isA j=true->∀ i,aow ops i->i≠j->(i<j/\L.getD i false=true)∨(j<i/\L.getD i false=false):=by
    intro hA i ⟨oi,hoi,hui⟩ hne
    have:=ad0 hA i oi (by simpa [mkDI] using hoi)
    simp only [Nat.zero_add,hui,Bool.not_true,Bool.false_or] at this
    exact hcmp i this hne
   have hNk:(mkDI ops).isN j=true->∀ i,NUpd ops i->i≠j->(i<j/\L.getD i false=true)∨(j<i/\L.getD i false=false):=by
    intro hA i ⟨oi,hoi,hui,hxi⟩ hne
    have:=ad0 hA i oi (by simpa [mkDI] using hoi)
    simp only [Nat.zero_add,hui,hxi,Bool.not_false,Bool.and_self,Bool.not_true,Bool.false_or] at this
    exact hcmp i this hne
   have hext_upd:∀ i,aeu ops i->aow ops i:=fun i ⟨o,h1,h2⟩=>⟨o,h1,ao7 h2⟩
   have hnu_upd:∀ i,NUpd ops i->aow ops i:=fun i ⟨o,h1,h2,_⟩=>⟨o,h1,h2⟩
   -- listed new things stand behind all others that are not listed
   have hnoL:∀ i,k<=i->aeu ops i->L.getD i false=true->∀ i',k<=i'->i'<i->¬NUpd ops i':=by
    intro i h1 ⟨oi,hoi,hxi⟩ h3 i' h4 h5 hn'
    obtain ⟨hA,_⟩:=(hstep i oi (hi.lt i h3) hoi).1.upd (ao7 hxi)
    rw [hxi] at hA
    obtain ⟨oi',hoi',hui',hxi'⟩:=hn'
    have:=ad0 hA i' oi' (by simpa [mkDI] using hoi')
    simp only [Nat.zero_add,hui',hxi',Bool.not_false,Bool.and_self,Bool.not_true,Bool.false_or] at this
    unfold DI.cmp at this
    cases hb:Nat.beq i' i with
    | true=>have:=Nat.eq_of_beq_eq_true hb;omega
    | false=>
     rw [hb] at this
     simp only [cond_false] at this
     have hlt':Nat.blt i' i=true:=by show Nat.ble (i'+1) i=true;rw [Nat.ble_eq];omega
     rw [hlt'] at this
     simp only [cond_true] at this
     obtain ⟨_,hanc⟩:=arn this
     have h6:=ayf hi.down hanc (hi.down i h3)
     have:=hk3 i' h4 ⟨oi',hoi',hui',hxi'⟩
     rw [h6] at this;cases this
   rcases Nat.lt_or_ge j N with hjlt | hjge
   case inr=>
    have:j=N:=by omega
    subst this
    rcases hk with ⟨hNe,_⟩ | ⟨o',sp,st',ho',hp,hXr⟩
    ·omega
    ·have ho'':ops[j]?=some o':=by simpa using ho'
     rw [ho] at ho'';cases ho''
     have hA:=hp.isA
     have hkj':k<=j:=hk1
     have hσ:σ=s j:=afj hE' hN' hpt hkj' (by omega) (fun i h1 h2 hn'=>by
      rcases hAk hA i (hnu_upd i hn') (by omega) with ⟨_,h3⟩ | ⟨h3,_⟩
      ·have:=hk3 i h1 hn';rw [this] at h3;cases h3
      ·omega) (fun i h1 h2 he=>by
      rcases hAk hA i (hext_upd i he) (by omega) with ⟨_,h3⟩ | ⟨h3,_⟩
      ·exact h3
      ·omega) (fun i h1 he=>by
      have hne:i≠j:=fun hh=>by
       subst hh
       obtain ⟨o',q1,q3⟩:=he
       rw [ho] at q1;cases q1;rw [hp.ext] at q3;cases q3
      rcases hAk hA i (hext_upd i he) hne with ⟨h3,_⟩ | ⟨_,h3⟩
      ·omega
      ·exact h3)
     rw [hσ] at hr
     have hst:=hp.step
     rw [<-hsN j (Nat.le_refl _)] at hst
     exact auo hP ho hst hle hr _ Q (fun v' a' w' hpr=>hX _ _ v' a' w' hXr hpr)
   obtain ⟨hds,hput⟩:=hstep j o hjlt ho
   have hsz':(L.setIfInBounds j true).size=ops.size:=by simp [hi.size]
   have hgo:∀ g want t,o.guard=some (g,want)->(ops[g]?).bind (·.dst)=some t->L.getD g false=true/\∃ og,ops[g]?=some og/\og.dst=some t:=by
    intro g want t hg ht
    have:=hds.gd
    unfold gdOk at this
    rw [hg] at this
    obtain ⟨h1,h2⟩:=arn this
    cases hog:ops[g]? with
    | none=>rw [hog] at ht;cases ht
    | some og=>rw [hog] at ht;exact ⟨hup g h2,og,rfl,ht⟩
   have notj:∀ g og t,L.getD g false=true->ops[g]?=some og->og.dst=some t->o.dst≠some t:=by
    intro g og t hg hog ht hd
    have h1:=hwr g og t hog ht
    have h2:=hwr j o t ho hd
    rw [h1] at h2;cases h2
    rw [hj0] at hg;cases hg
   -- afterwards
   have after:∀ st2 k',k'<=N->Part ops s (L.setIfInBounds j true) k' st2->st.length<=(s k').length->(∀ i,i<k'->aow ops i->(L.setIfInBounds j true).getD i false=true)->(∀ i,k'<=i->NUpd ops i->(L.setIfInBounds j true).getD i false=false)->
    (∀ u want x,v j=.gd u want x->∃ g,o.guard=some (g,want)/\(ops[g]?).bind (·.dst)=some u)->∀ a' w',Rel Γ (put (envL ops v e L) o.dst (v j)) st2 a' w'->wpAny Γ.P .any ops Q fuel (L.setIfInBounds j true) a' w':=by
    intro st2 k' hk' hst hn0 h1 h2 hgd a' w' hr'
    have henv:put (envL ops v e L) o.dst (v j)=envL ops v e (L.setIfInBounds j true):=by
     funext t
     cases hd:o.dst with
     | none=>
      show envL ops v e L t=_
      unfold envL
      cases hw:ace t ops.toList 0 with
      | none=>rfl
      | some i=>
       simp only
       obtain ⟨oi,q1,q2⟩:=hwr' t i hw
       have:i≠j:=fun hh=>by subst hh;rw [ho] at q1;cases q1;rw [hd] at q2;cases q2
       rw [abh hltL,if_neg this]
     | some d=>
      simp only [put,Env.set]
      cases hb:Nat.beq t d with
      | true=>
       have:=Nat.eq_of_beq_eq_true hb;subst this
       unfold envL
       rw [hwr j o t ho hd]
       simp only [cond_true]
       rw [abh hltL,if_pos rfl,if_pos rfl]
      | false=>
       simp only [cond_false]
       unfold envL
       cases hw:ace t ops.toList 0 with
       | none=>rfl
       | some i=>
        simp only
        obtain ⟨oi,q1,q2⟩:=hwr' t i hw
        have:i≠j:=fun hh=>by
         subst hh;rw [ho] at q1;cases q1;rw [hd] at q2;cases q2
         rw [Nat.beq_refl] at hb;cases hb
        rw [abh hltL,if_neg this]
    refine ih _ _ _ ⟨hsz',?_,?_,fun i hl=>?_,k',st2,hk',h1,h2,hn0,hst,by rw [<-henv];exact hr'⟩ ?_
    ·intro i hl oi hoi x hx hb
     rw [abh hltL] at hl ⊢
     by_cases hxj:x.on=j
     ·rw [if_pos hxj]
     ·rw [if_neg hxj]
      by_cases hij:i=j
      ·subst hij;rw [ho] at hoi;cases hoi;exact hpre x hx hb
      ·rw [if_neg hij] at hl;exact hi.down i hl oi hoi x hx hb
    ·intro t u want x hh
     rw [<-henv] at hh
     have lift:(∃ g o,L.getD g false=true/\ops[g]?=some o/\o.dst=some u)->∃ g o,(L.setIfInBounds j true).getD g false=true/\ops[g]?=some o/\o.dst=some u:=by
      intro ⟨g,og,q1,q2,q3⟩
      refine ⟨g,og,?_,q2,q3⟩
      rw [abh hltL];split
      ·rfl
      ·exact q1
     cases hd:o.dst with
     | none=>rw [hd] at hh;exact lift (hi.gd t u want x hh)
     | some d=>
      rw [hd] at hh
      simp only [put,Env.set] at hh
      cases hb:Nat.beq t d with
      | true=>
       rw [hb] at hh
       obtain ⟨g,q1,q2⟩:=hgd u want x hh
       obtain ⟨q3,og,q4,q5⟩:=hgo g want u q1 q2
       exact lift ⟨g,og,q3,q4,q5⟩
      | false=>rw [hb] at hh;exact lift (hi.gd t u want x hh)
    ·rw [abh hltL] at hl
     by_cases hij:i=j
     ·omega
     ·rw [if_neg hij] at hl;exact hi.lt i hl
    ·have hltn:unl ops.size (L.setIfInBounds j true)<unl ops.size L:=by
      unfold unl
      refine aza (j:=j) (fun i hq=>?_) (by rw [hj0];rfl) (by rw [abh hltL,if_pos rfl];rfl) (List.mem_range.2 hlt)
      rw [abh hltL] at hq
      by_cases hij:i=j
      ·rw [if_pos hij] at hq;cases hq
      ·rw [if_neg hij] at hq;exact hq
     omega
   have hclean:∀ d,o.dst=some d->awf (envL ops v e L) d:=by
    intro d hd t u want x hh hu
    subst hu
    obtain ⟨g,og,q1,q2,q3⟩:=hi.gd t u want x hh
    exact notj g og u q1 q2 q3 hd
   have hgo':∀ g want t,o.guard=some (g,want)->(ops[g]?).bind (·.dst)=some t->o.dst≠some t:=fun g want t hg ht=>by
    obtain ⟨q1,og,q2,q3⟩:=hgo g want t hg ht
    exact notj g og t q1 q2 q3
   cases hu:(mkDI ops).upd j o with
   | true=>
    obtain ⟨hA,hl1,hl2,_,hsv⟩:=hds.upd hu
    have hkj':k<=j:=by
     rcases Nat.lt_or_ge j k with hlt' | hge
     ·have:=hk2 j hlt' ⟨o,ho,hu⟩;rw [hj0] at this;cases this
     ·exact hge
    cases hx:acq o.op with
    | true=>
     rw [hx] at hA
     simp only [cond_true] at hA
     obtain ⟨hg0,b,hsb,hext⟩:=ao6 hx hsv
     have hno:∀ i,k<=i->i<j->¬NUpd ops i:=fun i h1 h2 hn'=>by
      rcases hNk hA i hn' (by omega) with ⟨_,h3⟩ | ⟨h3,_⟩
      ·have:=hk3 i h1 hn';rw [this] at h3;cases h3
      ·omega
     have hset:∀ i,(L.setIfInBounds j true).getD i false=if i=j then true else L.getD i false:=fun i=>abh hltL
     have hxj:aeu ops j:=⟨o,ho,hx⟩
     have fin:∀ σ0 σ',Rel Γ (envL ops v e L) σ0 a w->aov Γ.np σ0 (s j).length b σ'->Part ops s (L.setIfInBounds j true) k σ'->wpOp Γ.P ops Q j (fun a' w'=>wpAny Γ.P .any ops Q fuel (L.setIfInBounds j true) a' w') a w:=by
      intro σ0 σ' hr0 hpl hp'
      refine a6s hP hn ho hg0 hext hds.dst hle hr0 hpl hclean _ Q (fun hgd a' w' hr'=>after σ' k hk1 hp' hk4 (fun i hij hui=>?_) (fun i hij hui=>?_) (fun u want x hv=>absurd hv (hgd u want x)) a' w' hr')
      ·rw [hset];split
       ·rfl
       ·exact hk2 i hij hui
      ·rw [hset]
       by_cases hne:i=j
       ·subst hne
        obtain ⟨o',q1,_,q3⟩:=hui
        rw [ho] at q1;cases q1;rw [hx] at q3;cases q3
       ·rw [if_neg hne];exact hk3 i hij hui
     rcases a0n hE' hN' hpt hkj' hlt hno hnoL hxj hsb hj0 hset with ⟨n,hn1,hp'⟩ | ⟨hn1,hp'⟩
     ·exact fin _ _ (a00 n hr) (Or.inl ⟨hn1,rfl⟩) hp'
     ·exact fin _ _ hr (Or.inr ⟨hn1,rfl,Nat.le_trans hnp hl1⟩) hp'
    | false=>
     rw [hx] at hA
     simp only [cond_false] at hA
     have hσ:σ=s j:=afj hE' hN' hpt hkj' (by omega) (fun i h1 h2 hn'=>by
      rcases hAk hA i (hnu_upd i hn') (by omega) with ⟨_,h3⟩ | ⟨h3,_⟩
      ·have:=hk3 i h1 hn';rw [this] at h3;cases h3
      ·omega) (fun i h1 h2 he=>by
      rcases hAk hA i (hext_upd i he) (by omega) with ⟨_,h3⟩ | ⟨h3,_⟩
      ·exact h3
      ·omega) (fun i h1 he=>by
      have hne:i≠j:=fun hh=>by
       subst hh
       obtain ⟨o',q1,q3⟩:=he
       rw [ho] at q1;cases q1;rw [hx] at q3;cases q3
      rcases hAk hA i (hext_upd i he) hne with ⟨h3,_⟩ | ⟨_,h3⟩
      ·omega
      ·exact h3)
     rw [hσ] at hr
     refine aor hP hn ho hsv hds.dst hle hr hclean hgo' _ Q (fun hgd a' w' hr'=>after (s (j+1)) (j+1) (by omega) ⟨Nat.le_refl _,fun _ _=>rfl,fun i b h1 h2 h3 _=>?_,fun p h1 h2=>by omega,Or.inl rfl⟩ hl2 (fun i hij hui=>?_) (fun i hij hui=>?_) hgd a' w' hr')
     ·rw [abh hltL,if_neg (by omega)] at h3
      rcases hAk hA i (hext_upd i h2) (by omega) with ⟨h4,_⟩ | ⟨_,h4⟩
      ·omega
      ·rw [h4] at h3;cases h3
     ·rw [abh hltL]
      by_cases hne:i=j
      ·rw [if_pos hne]
      ·rw [if_neg hne]
       rcases hAk hA i hui hne with ⟨_,h3⟩ | ⟨h3,_⟩
       ·exact h3
       ·omega
     ·rw [abh hltL,if_neg (by omega)]
      exact hk3 i (by omega) hui
   | false=>
    have hnu:¬aow ops j:=fun ⟨o',ho',hu'⟩=>by rw [ho] at ho';cases ho';rw [hu] at hu';cases hu'
    have hA':(mkDI ops).isA j=true->σ=s j:=by
     intro hA
     rcases Nat.le_total k j with hle | hle
     ·exact afj hE' hN' hpt hle (by omega) (fun i h1 h2 hn'=>by
       rcases hAk hA i (hnu_upd i hn') (by omega) with ⟨_,h3⟩ | ⟨h3,_⟩
       ·have:=hk3 i h1 hn';rw [this] at h3;cases h3
       ·omega) (fun i h1 h2 he=>by
       rcases hAk hA i (hext_upd i he) (by omega) with ⟨_,h3⟩ | ⟨h3,_⟩
       ·exact h3
       ·omega) (fun i h1 he=>by
       have hne:i≠j:=fun hh=>by subst hh;exact hnu (hext_upd i he)
       rcases hAk hA i (hext_upd i he) hne with ⟨h3,_⟩ | ⟨_,h3⟩
       ·omega
       ·exact h3)
     ·have e1:σ=s k:=afj hE' hN' hpt (Nat.le_refl _) (Nat.le_trans hk1 hNle) (fun i h1 h2=>by omega) (fun i h1 h2=>by omega) (fun i h1 he=>by
       have hne:i≠j:=fun hh=>by subst hh;exact hnu (hext_upd i he)
       rcases hAk hA i (hext_upd i he) hne with ⟨h3,_⟩ | ⟨_,h3⟩
       ·omega
       ·exact h3)
      rw [e1]
      refine (hsame j k hle (Nat.le_trans hk1 hNle) (fun i h1 h2 hui=>?_)).symm
      have hne:i≠j:=fun hh=>by subst hh;exact hnu hui
      rcases hAk hA i hui hne with ⟨h3,_⟩ | ⟨_,h3⟩
      ·omega
      ·have:=hk2 i h2 hui;rw [this] at h3;cases h3
    have hB':(mkDI ops).isA j=false->σ.take (bif (mkDI ops).isB j then st.length else 0)=(s j).take (bif (mkDI ops).isB j then st.length else 0):=by
     intro _
     cases hB:(mkDI ops).isB j with
     | false=>simp
     | true=>
      simp only [cond_true]
      have e0:σ.take st.length=(s k).take st.length:=by
       apply List.ext_getElem?
       intro i
       by_cases h:i<st.length
       ·rw [List.getElem?_take_of_lt h,List.getElem?_take_of_lt h]
        exact hpt.pre i (by omega)
       ·rw [List.getElem?_eq_none (by simp;omega),List.getElem?_eq_none (by simp;omega)]
      rw [e0]
      have hext:∀ i oi,ops[i]?=some oi->(mkDI ops).upd i oi=true->i≠j->(acq oi.op||(mkDI ops).soft oi)=false->(i<j/\L.getD i false=true)∨(j<i/\L.getD i false=false):=by
       intro i oi hoi hui hne hx
       have:=ad0 hB i oi (by simpa [mkDI] using hoi)
       simp only [Nat.zero_add,hui,hx,Bool.not_false,Bool.and_self,Bool.not_true,Bool.false_or] at this
       exact hcmp i this hne
      rcases Nat.le_total k j with hle | hle
      ·refine htake k j hle (by omega) (fun i oi h1 h2 hoi hui=>?_)
       cases hx:(acq oi.op||(mkDI ops).soft oi) with
       | true=>simpa [Bool.or_eq_true] using hx
       | false=>
        rcases hext i oi hoi hui (by omega) hx with ⟨_,h3⟩ | ⟨h3,_⟩
        ·simp only [Bool.or_eq_false_iff] at hx
         have:=hk3 i h1 ⟨oi,hoi,hui,hx.1⟩;rw [this] at h3;cases h3
        ·omega
      ·refine (htake j k hle hk1 (fun i oi h1 h2 hoi hui=>?_)).symm
       have hne:i≠j:=fun hh=>by subst hh;exact hnu ⟨oi,hoi,hui⟩
       cases hx:(acq oi.op||(mkDI ops).soft oi) with
       | true=>simpa [Bool.or_eq_true] using hx
       | false=>
        rcases hext i oi hoi hui hne hx with ⟨h3,_⟩ | ⟨_,h3⟩
        ·omega
        ·have:=hk2 i h2 ⟨oi,hoi,hui⟩;rw [this] at h3;cases h3
    have hset:∀ i,(L.setIfInBounds j true).getD i false=if i=j then true else L.getD i false:=fun i=>abh hltL
    have hnx:∀ i,aeu ops i->i≠j:=fun i he hh=>by subst hh;exact hnu (hext_upd i he)
    have hpt':Part ops s (L.setIfInBounds j true) k σ:=by
     refine ⟨hpt.len,hpt.pre,fun i b h1 h2 h3 h4=>?_,fun p h1 h2=>?_,?_⟩
     ·rw [hset,if_neg (hnx i h2)] at h3
      exact hpt.fil i b h1 h2 h3 h4
     ·rcases hpt.hol p h1 h2 with h | ⟨i,q1,q2,q3,q4⟩
      ·exact Or.inl h
      ·exact Or.inr ⟨i,q1,q2,by rw [hset,if_neg (hnx i q2)];exact q3,q4⟩
     ·rcases hpt.top with h | ⟨i,q1,q2,q3,q4⟩
      ·exact Or.inl h
      ·exact Or.inr ⟨i,q1,q2,by rw [hset,if_neg (hnx i q2)];exact q3,q4⟩
    have hsvσ:StepV C ops o ((mkDI ops).mask j (E j)) σ (v j) σ:=by
     cases hlm:lmOf (mkDI ops) st.length j o ((mkDI ops).mask j (E j)) (LK j) with
     | none=>exact (hds.non hu).2 σ hA' hB' hlm
     | some p=>
      obtain ⟨hgn,⟨hnc,hop⟩,hroot,hkn,hpj,hnA,hpu,hbef⟩:=ari hlm
      obtain ⟨hld,hmem⟩:=hds.lm p hu hlm
      have hst0:st.length<=(s k).length:=hk4
      have e0:σ[p.k]?=(s k)[p.k]?:=hpt.pre p.k (by omega)
      have hone:∀ i oi,i<N->ops[i]?=some oi->(mkDI ops).upd i oi=true->(acq oi.op||(mkDI ops).soft oi)=true->rdAc C.P p (s (i+1))=rdAc C.P p (s i):=by
       intro i oi hi hoi hui hx
       obtain ⟨_,h2,_,h4,h3⟩:=(hstep i oi hi hoi).1.upd hui
       have ht:(s (i+1)).take st.length=(s i).take st.length:=by
        cases hb:acq oi.op with
        | true=>exact avh hb h3 h2
        | false=>rw [hb] at hx;exact ash (h4 hx) h3
       have e1:(s (i+1))[p.k]?=(s i)[p.k]?:=by
        have:=congrArg (fun l=>l[p.k]?) ht
        simpa [List.getElem?_take_of_lt hkn] using this
       exact aje hroot e1
      have hval:rdAc C.P p (s k)=.val true (v j):=by
       rcases Nat.le_total k j with hle' | hle'
       ·have:∀ q,k<=q->q<=j->rdAc C.P p (s k)=rdAc C.P p (s q):=by
         intro q hkq
         induction q with
         | zero=>intro _;have:k=0:=by omega
                 subst this;rfl
         | succ q ihq=>
          intro hq
          by_cases he:k=q+1
          ·subst he;rfl
          ·rw [ihq (by omega) (by omega)]
           have hoq:ops[q]?=some ops[q]:=Array.getElem?_eq_getElem (by omega)
           cases huq:(mkDI ops).upd q ops[q] with
           | false=>rw [((hstep q _ (by omega) hoq).1.non huq).1]
           | true=>
            have hcm:=ad0 hbef q ops[q] (by simpa [mkDI] using hoq)
            simp only [Nat.zero_add,huq,Bool.not_true,Bool.false_or,Bool.or_eq_true] at hcm
            cases hb:acq ops[q].op with
            | true=>exact (hone q _ (by omega) hoq huq (by rw [hb];rfl)).symm
            | false=>
             rcases hcm with (hcm | hcm) | hcm
             ·have:=Nat.le_of_ble_eq_true hcm;omega
             ·rcases hcmp q hcm (by omega) with ⟨_,h3⟩ | ⟨h3,_⟩
              ·have:=hk3 q (by omega) ⟨_,hoq,huq,hb⟩;rw [this] at h3;cases h3
              ·omega
             ·obtain ⟨g,hg1,hg2⟩:=List.any_eq_true.1 hcm
              simp only [Bool.and_eq_true] at hg2
              obtain ⟨q',o',_,ho',hj',_,hf'⟩:=hLog j (by omega) g hg1 hg2.1.1
              have hqq:=Nat.eq_of_beq_eq_true hg2.1.2
              have:q'=q:=by omega
              subst this
              rw [hoq] at ho';cases ho'
              have hoff:=hg2.2
              rw [hf'] at hoff
              obtain ⟨_,h2,_,_,h5⟩:=(hstep q' _ (by omega) hoq).1.upd huq
              exact (aje hroot (ai9 (k:=p.k) (by omega) h5 hoff)).symm
        rw [this j hle' (Nat.le_refl _)];exact hld
       ·have:∀ q,j<=q->q<=k->rdAc C.P p (s q)=.val true (v j):=by
         intro q hjq
         induction q with
         | zero=>intro _;have:j=0:=by omega
                 subst this;exact hld
         | succ q ihq=>
          intro hq
          by_cases he:j=q+1
          ·subst he;exact hld
          ·have ihq:=ihq (by omega) (by omega)
           have hoq:ops[q]?=some ops[q]:=Array.getElem?_eq_getElem (by omega)
           cases huq:(mkDI ops).upd q ops[q] with
           | false=>rw [((hstep q _ (by omega) hoq).1.non huq).1];exact ihq
           | true=>
            have hne:q≠j:=fun hh=>by subst hh;exact hnu ⟨_,hoq,huq⟩
            have hmq:({ p with v:=v j }:LM)∈LK q:=hLK _ (j+1) q (by omega) (by omega) hmem
            cases hcm:(mkDI ops).cmp j q with
            | true=>
             have hcm':(mkDI ops).cmp q j=true:=by
                 revert hcm
                 unfold DI.cmp
                 have hb1:Nat.beq j q=false:=by rw [<-Bool.not_eq_true,Nat.beq_eq];omega
                 have hb2:Nat.beq q j=false:=by rw [<-Bool.not_eq_true,Nat.beq_eq];omega
                 have hb3:Nat.blt j q=true:=by show Nat.ble (j+1) q=true;rw [Nat.ble_eq];omega
                 have hb4:Nat.blt q j=false:=by
                  cases hbb:Nat.blt q j with
                  | false=>rfl
                  | true=>have:q+1<=j:=Nat.le_of_ble_eq_true hbb;omega
                 rw [hb1,hb2,hb3,hb4];exact id
             rcases hcmp q hcm' hne with ⟨h3,_⟩ | ⟨_,h3⟩
             ·omega
             ·have:=hk2 q (by omega) ⟨_,hoq,huq⟩;rw [this] at h3;cases h3
            | false=>
             have hdq:=(hstep q _ (by omega) hoq).1
             rcases hdq.ok huq _ hmq hpu (by simpa [hpj] using hcm) with h3 | h3 | h3 | ⟨h3,h4⟩
             ·rw [hone q _ (by omega) hoq huq h3];exact ihq
             ·obtain ⟨_,h2,_,_,h5⟩:=hdq.upd huq
              rw [aje hroot (ai9 (k:=p.k) (by omega) h5 h3)];exact ihq
             ·exact h3
             ·obtain ⟨_,_,_,_,h5⟩:=hdq.upd huq
              rw [as9 (p:=p) h4 h3 h5];exact ihq
        exact this k hle' (Nat.le_refl _)
      refine .val hgn ?_
      rw [hop,aje hroot e0];exact hval
    refine aor hP hn ho hsvσ hds.dst hle hr hclean hgo' _ Q (fun hgd a' w' hr'=>after σ k hk1 hpt' hk4 (fun i hij hui=>?_) (fun i hij hui=>?_) hgd a' w' hr')
    ·rw [abh hltL]
     split
     ·rfl
     ·exact hk2 i hij hui
    ·rw [abh hltL]
     by_cases hne:i=j
     ·subst hne;exact absurd (hnu_upd i hui) hnu
     ·rw [if_neg hne];exact hk3 i hij hui
 refine main _ _ _ _ ⟨by simp,fun j hj=>absurd hj (by rw [afm];decide),fun t u want x hh=>?_,fun i hl=>absurd hl (by rw [afm];decide),0,st,by omega,fun i hi=>by omega,fun i _ _=>afm _ _,by rw [hs0];exact Nat.le_refl _,⟨by rw [hs0];exact Nat.le_refl _,fun p _=>by rw [hs0],fun i b _ _ h3 _=>absurd h3 (by rw [afm];decide),fun p h1 h2=>by rw [hs0] at h1;omega,Or.inl (by rw [hs0])⟩,?_⟩ (by unfold unl;exact Nat.le_trans (List.length_filter_le _ _) (by simp))
 ·have:envL ops v e (Array.replicate ops.size false) t=e t:=by
   unfold envL
   split
   ·rw [afm,if_neg (by decide)]
   ·rfl
  rw [this] at hh;exact absurd hh (hng t u want x)
 ·have:envL ops v e (Array.replicate ops.size false)=e:=by
   funext t
   unfold envL
   split
   ·rw [afm,if_neg (by decide)]
   ·rfl
  rw [this];exact hrel
end
end Go.Ab
