/- From a function's contract over plain data to the law that its row asks for. -/
import Derived.Test.YtodichgnoiaanaaGreatDoorAbBridgeE
import Derived.Test.YtodichgnoiaanaaGreatDoorCards
import Derived.Test.YtodichgnoiaanaaGreatDoorTie
import Derived.ProofKit
import Derived.OpenShut
import Derived.Carry
import Derived.ChangeSame
import Derived.Deep.DeepHandedRow
import Derived.Stop.LaidErr
set_option linter.unusedVariables false
set_option linter.unusedSimpArgs false
set_option linter.unnecessarySimpa false
namespace Go.Ab
open Go Go.Proofs Go.Proofs.YtodichgnoiaanaaGreatDoor Go.ChangeShapes Go.WideShapes Go.ChangeAt Go.RowKit
def a7i (P:Program) (t:TypeId) (p:PV):SV:=
 match P.underlying t with
 | some .bool=>.bool p.asBool
 | some (.int k)=>.int k p.asInt
 | some .string=>.str p.asStr
 | some (.slice E)=>.slice E p.asList
 | _=>.data t p
section
variable {H:Type}{enc:TypeId×Value->H}{P:Program}{w:World}{S:List TypeId}
def ane (P:Program) (w:World):List TypeId->List Value->List PV->Prop
 | [],[],[]=>True
 | t::ts,v::vs,p::ps=>(Rep P (λb _=>b<w.heap.size) w t p v.cells.toList/\∃ n,abb P n t p)/\ane P w ts vs ps
 | _,_,_=>False
theorem a1x (hS:ait P S=true):∀ (I:List TypeId) (M:List Value) (J:List (DataW H)) (ps:List MemPlace),(I.all λt=>S.any (Nat.beq t))=true->
 DataW.TrodAll enc P w 0 (λ_=>true) true I M J ps->∃ o:List PV,ane P w I M o/\aax o<=Rows.uptoBulkAll J:=by
 intro I
 induction I with
 | nil=>
  intro M J ps _ h
  obtain ⟨rfl,rfl,rfl⟩:=trodAll_nil h
  exact ⟨[],trivial,by simp [aax,Rows.uptoBulkAll]⟩
 | cons t I ih=>
  intro M J ps Z h
  simp only [Bi,Aj] at Z
  obtain ⟨v,aa,d,O,p,q,rfl,rfl,rfl,h0,hr⟩:=trodAll_cons h
  obtain ⟨o,g1,g2⟩:=ih aa O q Z.2 hr
  obtain ⟨z,hf⟩:=h0
  obtain ⟨pv,⟨q1,q2⟩,q3⟩:=bap hS z t _ d p Z.1 hf
  exact ⟨pv::o,⟨⟨q1,z,q2⟩,g1⟩,by grind [aax,Rows.uptoBulkAll]⟩
theorem a7j {D:Dom}{ow:Own}{μ:Nat->Nat}{st:List BX}{base:Nat}{t:TypeId}{v:Value}{p:PV}{n:Nat} (O:akr P S t=true) (z:Value.okWide P w .any base t v)
 (J:Rep P D w t p v.cells.toList) (o:abb P n t p):SRep P D w ow μ st (a7i P t p) v:=by
 cases n with
 | zero=>cases o
 | succ n=>
  unfold akr at O
  unfold abb at o
  unfold a7i
  split at O
  ·rename_i h;simp only [h] at o ⊢;obtain ⟨b,rfl⟩:=o;obtain ⟨b',rfl⟩:=okWide_bool h z;simp only [Value.cells] at J;cases J with
   | bool _=>exact .bool
  ·rename_i k h;simp only [h] at o ⊢;obtain ⟨m,rfl,_⟩:=o;have I:∃ M,v=.int k M:=by
    simp only [Value.okWide,h,Cell.okWide,Cell.ok] at z;grind
   obtain ⟨M,rfl⟩:=I;simp only [Value.cells] at J;cases J with
   | int _=>exact .int
  ·rename_i h;simp only [h] at o ⊢;obtain ⟨s,rfl⟩:=o;have I:∃ M,v=.string M:=by
    simp only [Value.okWide,h,Cell.okWide,Cell.ok] at z;grind
   obtain ⟨M,rfl⟩:=I;simp only [Value.cells] at J;cases J with
   | str _=>exact .str
  ·rename_i E h;simp only [h] at o ⊢;obtain ⟨u,hc,Z⟩:=J.sliceRep h;have I:∃ a l c,v=.slice a l c:=by
    simp only [Value.okWide,h,Cell.okWide,Cell.ok] at z;grind
   obtain ⟨a,l,c,rfl⟩:=I;have:Value.slice a l c=u:=by grind [Value.cells]
   subst this;exact .slice Z
  ·rename_i fs h;simp only [h] at o ⊢;have I:∃ cs,v=.agg cs:=by
    grind [Value.okWide]
   obtain ⟨cs,rfl⟩:=I;have:=SRep.data (P:=P) (D:=D) (w:=w) (ow:=ow) (μ:=μ) (st:=st) (T:=t) (v:=p) (cs:=cs.toList) (by simp [aaj,h]) (by grind [Value.cells]);simpa using this
  ·rename_i k E h;simp only [h] at o ⊢;have I:∃ cs,v=.agg cs:=by
    grind [Value.okWide]
   obtain ⟨cs,rfl⟩:=I;have:=SRep.data (P:=P) (D:=D) (w:=w) (ow:=ow) (μ:=μ) (st:=st) (T:=t) (v:=p) (cs:=cs.toList) (by simp [aaj,h]) (by grind [Value.cells]);simpa using this
  ·cases O
def ai2 (P:Program) (o:List TypeId) (h:List PV):List SV:=List.zipWith (a7i P) o h
theorem a1y {ow:Own}{μ:Nat->Nat}{st:List BX}{base:Nat} (hS:ait P S=true):∀ (z:List TypeId) (J:List Value) (o:List PV),(z.all λt=>S.any (Nat.beq t))=true->
 (∀ (j:Nat) t v,z[j]?=some t->J[j]?=some v->Value.okWide P w .any base t v)->ane P w z J o->
 (J.length=z.length/\(ai2 P z o).length=z.length/\o.length=z.length)/\∀ (i:Nat) (s:SV) (v:Value),(ai2 P z o)[i]?=some s->J[i]?=some v->SRep P (λb _=>b<w.heap.size) w ow μ st s v:=by
 intro z
 induction z with
 | nil=>grind [ane,ai2]
 | cons t z ih=>
  intro J o O I h
  simp only [Bi,Aj] at O
  cases J with
  | nil=>cases o<;>cases h
  | cons v J=>
   cases o with
   | nil=>cases h
   | cons p o=>
    obtain ⟨⟨h1,n,h2⟩,h3⟩:=h
    obtain ⟨⟨l1,l2,l3⟩,g⟩:=ih J o O.2 (λj t v hj M=>I (j+1) t v (by simpa using hj) (by simpa using M)) h3
    refine ⟨⟨by simp [l1],by grind [ai2],by simp [l3]⟩,λi s v' Z M=>?_⟩
    cases i with
    | zero=>
     simp [ai2] at Z M
     subst Z M
     exact a7j (ami hS O.1) (I 0 t v rfl rfl) h1 h2
    | succ i=>grind [ai2]
theorem a1w {w:World}:∀ (z:List TypeId) (I:List Value) (o:List PV),ane P w z I o->∀ (i:Nat) (t:TypeId) (p:PV),z[i]?=some t->o[i]?=some p->∃ n,abb P n t p:=by
 intro z;induction z with
 | nil=>grind
 | cons t z ih=>
  intro I o h i t' p O Z;cases I with
  | nil=>cases o<;>cases h
  | cons v I=>
   cases o with
   | nil=>cases h
   | cons q o=>obtain ⟨⟨_,J⟩,M⟩:=h;grind
theorem axu:∀ (o:List TypeId) (J:List Value) (z:List (DataW H)) (I:List MemPlace),DataW.TrodAll enc P w 0 (λ_=>true) true o J z I->z.length=o.length:=by
 intro o;induction o with
 | nil=>intro J z I h;obtain ⟨_,rfl,_⟩:=trodAll_nil h;rfl
 | cons t o ih=>intro J z I h;obtain ⟨v,O,d,M,p,q,rfl,rfl,rfl,Z,hr⟩:=trodAll_cons h;grind
theorem avi (hl:laidOutB P=true) {W W':World} (hb:Below W.heap.size W W'):∀ (I:List TypeId) (vs:List Value) (Z:List (DataW H)) (z:List MemPlace),(I.all λt=>P.readableRec t&&decide (t<P.types.size))=true->
 DataW.TrodAll enc P W 0 (λ_=>true) true I vs Z z->∀ O:Nat->Bool,(∀ p∈z,O p.block=true)->(∀ p∈z,p.block<W.heap.size)->DataW.TrodAll enc P W' 0 O true I vs Z z:=by
 intro I
 induction I with
 | nil=>
  intro vs Z z _ h O _ _
  obtain ⟨rfl,rfl,rfl⟩:=trodAll_nil h
  exact trodAll_mk0
 | cons t I ih=>
  intro vs Z z ht h O M J
  simp only [Bi,Aj,A4] at ht
  obtain ⟨v,ab,d,aa,p,q,rfl,rfl,rfl,h0,hr⟩:=trodAll_cons h
  exact trodAll_cons_mk (WideElems.Trod_stays hl ht.1.1 ht.1.2 h0 (λx o=>hb.same (J x (by simp [o]))) (λx o=>M x (by simp [o])))
   (ih ab aa q ht.2 hr O (λx o=>M x (by simp [o])) (λx o=>J x (by simp [o])))
theorem bch {f:FuncId}{fn:Func}{s:ChangeSpec}{I:Bool}{W:World}{base N:Nat}{args:Array Value}{h gs:List (DataW H)}{O:List MemPlace}{tb:TypeId}
 (hl:laidOutB P=true) (ar:(fn.params.toList.all λt=>P.readableRec t&&decide (t<P.types.size))=true) (M:s.vars=[]) (ag:fn.resultTypes=#[tb]) (ak:P.underlying tb=some .bool)
 (hS:ait P S=true) (af:(fn.params.toList.all λt=>S.any (Nat.beq t))=true)
 (an:∀ h:List (DataW H),h.length=fn.params.toList.length->s.fn H h={ results:=[.lit (.bool true)],args:=h })
 (ah:∀ (j:Nat) t v,fn.params[j]?=some t->args[j]?=some v->Value.okWide P W .any base t v)
 (hW:DataW.Whole enc P fn.params.toList s.vars I W args.toList h gs O) (hN:Rows.uptoBulkAll (h++gs)<=N) (ht:Tabs P (λ_=>none) W)
 (hm:∀ z:List PV,z.length=fn.params.toList.length->(∀ (i:Nat) (t:TypeId) (p:PV),fn.params.toList[i]?=some t->z[i]?=some p->∃ n,abb P n t p)->aax z<=N->
  Meets P f (ai2 P fn.params.toList z) [] [.bool true] []):
 Calls P f args W λe W'=>∃ v,e=.returned v/\s.post enc P fn I true false false W args v W':=by
 have aa:=hW
 obtain ⟨p,q,hA,hV,rfl,ao,aq⟩:=hW
 rw [M] at hV
 obtain ⟨rfl,rfl⟩:=trodVars_none hV
 simp only [List.append_nil] at aa hN
 obtain ⟨z,J,ab⟩:=a1x (S:=S) hS _ _ _ _ af hA
 obtain ⟨⟨l1,l2,l3⟩,hs⟩:=a1y (S:=S) (base:=base) (ow:=λ_=>none) (μ:=id) (st:=[]) hS _ _ _ af (λj t v hj hv=>ah j t v (by simpa using hj) (by simpa using hv)) J
 have am:h.length=fn.params.toList.length:=by all_goals grind [axu]
 refine ((hm z l3 (a1w _ _ _ J) (Nat.le_trans ab hN)).2 (λb _=>b<W.heap.size) (λ_=>none) id W args
  ⟨by all_goals grind,λi s v hi hv=>hs i s v hi (by simpa using hv),⟨λk b hk=>(by simp at hk),λb k hk=>(by cases hk),λb o hb=>hb,λb k x hk=>(by cases hk)⟩,ht⟩).mono ?_
 rintro e W' ⟨v,D',rfl,hp⟩
 refine ⟨v,rfl,?_⟩
 have hb:Below W.heap.size W W':=⟨hp.os,hp.tape,hp.output,hp.size,λk hk=>hp.old k hk rfl⟩
 have hv:v=.bool true:=by obtain ⟨au,av,hr⟩:=hp.rest;have:=hr.res;cases this;rfl
 subst hv
 have ap:∀ x∈p,x.block<W.heap.size:=λx hx=>aa.lt x hx
 have ae:∀ x∈p,(λb=>decide (b<W.heap.size)) x.block=true:=λx hx=>by all_goals grind
 have ad:s.fn H (h++[])={ results:=[.lit (.bool true)],args:=h }:=by all_goals grind
 have aj:∀ (b:Nat) (Z:Nat->Bool) (hd:Bool),DataW.TrodAll enc P W' b Z hd fn.resultTypes.toList ((Value.bool true).resultList fn.resultTypes.size) (s.fn H (h++[])).results []:=by intro b Z hd;rw [ad,ag];exact trodAll_mk1 (shut_bool ak _)
 have al:∀ Z:Nat->Bool,DataW.TrodVars enc P W' Z s.vars (s.fn H (h++[])).vars []:=by intro Z;rw [ad,M];rfl
 have ai:∀ Z:Nat->Bool,(∀ x∈p,Z x.block=true)->DataW.TrodAll enc P W' 0 Z true fn.params.toList args.toList (s.fn H (h++[])).args p:=by all_goals grind [avi]
 refine ⟨h,[],p,[],p,[],by simpa using aa,aj _ _ _,ai _ ae,al _,World.keptBut_mono (λx hx=>⟨hx,?_⟩) (hb.frame (·∈p)),λ_=>?_⟩
 all_goals grind
end
theorem bbj {P:Program}{W:World}{name:String}{k:IntKind}{zs:List Int} (h:Lib.TabIs P W name k zs) {g:Nat} (I:P.globalNamed name=some g):∃ T o,W.heap[g]?=some (.cells (zs.map λz=>Value.int k z).toArray T o):=by grind [Lib.TabIs,World.var?]
end Go.Ab
