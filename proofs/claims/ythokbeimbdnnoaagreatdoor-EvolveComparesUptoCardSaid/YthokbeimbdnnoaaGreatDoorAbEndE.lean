/- From a function's contract over plain data to the law that its row asks for. -/
import Derived.Test.YthokbeimbdnnoaaGreatDoorAbBridgeE
import Derived.Test.YthokbeimbdnnoaaGreatDoorCards
import Derived.Test.YthokbeimbdnnoaaGreatDoorTie
import Derived.ProofKit
import Derived.OpenShut
import Derived.Carry
import Derived.ChangeSame
import Derived.Deep.DeepHandedRow
import Derived.Stop.LaidErr
set_option linter.unusedVariables false
set_option linter.unusedSimpArgs false
set_option linter.unnecessarySimpa false
namespace Go.Ab
open Go Go.Proofs Go.Proofs.YthokbeimbdnnoaaGreatDoor Go.ChangeShapes Go.WideShapes Go.ChangeAt Go.RowKit
def a0t (P:Program) (t:TypeId) (p:PV):SV:=
 match P.underlying t with
 | some .bool=>.bool p.asBool
 | some (.int k)=>.int k p.asInt
 | some .string=>.str p.asStr
 | some (.slice E)=>.slice E p.asList
 | _=>.data t p
section
variable {H:Type}{enc:TypeId×Value->H}{P:Program}{w:World}{S:List TypeId}
def ak7 (P:Program) (w:World):List TypeId->List Value->List PV->Prop
 | [],[],[]=>True
 | t::ts,v::vs,p::ps=>(Rep P (λb _=>b<w.heap.size) w t p v.cells.toList/\∃ n,abe P n t p)/\ak7 P w ts vs ps
 | _,_,_=>False
theorem axg (hS:ahq P S=true):∀ (I:List TypeId) (M:List Value) (J:List (DataW H)) (ps:List MemPlace),(I.all λt=>S.any (Nat.beq t))=true->
 DataW.TrodAll enc P w 0 (λ_=>true) true I M J ps->∃ o:List PV,ak7 P w I M o/\aaw o<=Rows.uptoBulkAll J:=by
 intro I
 induction I with
 | nil=>
  intro M J ps _ h
  obtain ⟨rfl,rfl,rfl⟩:=trodAll_nil h
  exact ⟨[],trivial,by simp [aaw,Rows.uptoBulkAll]⟩
 | cons t I ih=>
  intro M J ps Z h
  simp only [Bj,Ai] at Z
  obtain ⟨v,aa,d,O,p,q,rfl,rfl,rfl,h0,hr⟩:=trodAll_cons h
  obtain ⟨o,g1,g2⟩:=ih aa O q Z.2 hr
  obtain ⟨z,hf⟩:=h0
  obtain ⟨pv,⟨q1,q2⟩,q3⟩:=a3k hS z t _ d p Z.1 hf
  exact ⟨pv::o,⟨⟨q1,z,q2⟩,g1⟩,by simp only [aaw,Rows.uptoBulkAll];omega⟩
theorem a0u {D:Dom}{ow:Own}{μ:Nat->Nat}{st:List BX}{base:Nat}{t:TypeId}{v:Value}{p:PV}{n:Nat} (Z:ai7 P S t=true) (o:Value.okWide P w .any base t v)
 (J:Rep P D w t p v.cells.toList) (I:abe P n t p):SRep P D w ow μ st (a0t P t p) v:=by
 cases n with
 | zero=>cases I
 | succ n=>
  unfold ai7 at Z
  unfold abe at I
  unfold a0t
  split at Z
  ·rename_i z;simp only [z] at I ⊢;obtain ⟨b,rfl⟩:=I;obtain ⟨b',rfl⟩:=okWide_bool z o;simp only [Value.cells] at J;cases J with
   | bool _=>exact .bool
  ·rename_i k z;simp only [z] at I ⊢;obtain ⟨m,rfl,_⟩:=I;have M:∃ O,v=.int k O:=by
    simp only [Value.okWide,z,Cell.okWide,Cell.ok] at o;split at o<;>simp_all
   obtain ⟨O,rfl⟩:=M;simp only [Value.cells] at J;cases J with
   | int _=>exact .int
  ·rename_i z;simp only [z] at I ⊢;obtain ⟨s,rfl⟩:=I;have M:∃ O,v=.string O:=by
    simp only [Value.okWide,z,Cell.okWide,Cell.ok] at o;split at o<;>simp_all
   obtain ⟨O,rfl⟩:=M;simp only [Value.cells] at J;cases J with
   | str _=>exact .str
  ·rename_i E z;simp only [z] at I ⊢;obtain ⟨u,hc,hs⟩:=J.sliceRep z;have M:∃ a l c,v=.slice a l c:=by
    simp only [Value.okWide,z,Cell.okWide,Cell.ok] at o;split at o<;>simp_all
   obtain ⟨a,l,c,rfl⟩:=M;have:Value.slice a l c=u:=by simpa [Value.cells] using hc
   subst this;exact .slice hs
  ·rename_i fs z;simp only [z] at I ⊢;have M:∃ cs,v=.agg cs:=by
    simp only [Value.okWide,z] at o;obtain ⟨cs,h,_⟩:=o;exact ⟨cs,h⟩
   obtain ⟨cs,rfl⟩:=M;have:=SRep.data (P:=P) (D:=D) (w:=w) (ow:=ow) (μ:=μ) (st:=st) (T:=t) (v:=p) (cs:=cs.toList) (by simp [aak,z]) (by simpa [Value.cells] using J);simpa using this
  ·cases Z
def ahy (P:Program) (o:List TypeId) (h:List PV):List SV:=List.zipWith (a0t P) o h
theorem axh {ow:Own}{μ:Nat->Nat}{st:List BX}{base:Nat} (hS:ahq P S=true):∀ (z:List TypeId) (I:List Value) (o:List PV),(z.all λt=>S.any (Nat.beq t))=true->
 (∀ (j:Nat) t v,z[j]?=some t->I[j]?=some v->Value.okWide P w .any base t v)->ak7 P w z I o->
 (I.length=z.length/\(ahy P z o).length=z.length/\o.length=z.length)/\∀ (i:Nat) (s:SV) (v:Value),(ahy P z o)[i]?=some s->I[i]?=some v->SRep P (λb _=>b<w.heap.size) w ow μ st s v:=by
 intro z
 induction z with
 | nil=>
  intro I o _ _ h
  cases I<;>cases o<;>simp_all [ak7,ahy]
 | cons t z ih=>
  intro I o Z J h
  simp only [Bj,Ai] at Z
  cases I with
  | nil=>cases o<;>cases h
  | cons v I=>
   cases o with
   | nil=>cases h
   | cons p o=>
    obtain ⟨⟨h1,n,h2⟩,h3⟩:=h
    obtain ⟨⟨l1,l2,l3⟩,g⟩:=ih I o Z.2 (λj t v hj M=>J (j+1) t v (by simpa using hj) (by simpa using M)) h3
    refine ⟨⟨by simp [l1],by simpa [ahy] using l2,by simp [l3]⟩,λi s v' O M=>?_⟩
    cases i with
    | zero=>
     simp [ahy] at O M
     subst O M
     exact a0u (akk hS Z.1) (J 0 t v rfl rfl) h1 h2
    | succ i=>exact g i s v' (by simpa [ahy] using O) (by simpa using M)
theorem axf {w:World}:∀ (J:List TypeId) (z:List Value) (o:List PV),ak7 P w J z o->∀ (i:Nat) (t:TypeId) (p:PV),J[i]?=some t->o[i]?=some p->∃ n,abe P n t p:=by
 intro J;induction J with
 | nil=>intro z o _ i t p I;simp at I
 | cons t J ih=>
  intro z o h i t' p I M;cases z with
  | nil=>cases o<;>cases h
  | cons v z=>
   cases o with
   | nil=>cases h
   | cons q o=>
    obtain ⟨⟨_,O⟩,Z⟩:=h;cases i with
    | zero=>simp at I M;subst I M;exact O
    | succ i=>exact ih z o Z i t' p (by simpa using I) (by simpa using M)
theorem atv:∀ (o:List TypeId) (J:List Value) (z:List (DataW H)) (I:List MemPlace),DataW.TrodAll enc P w 0 (λ_=>true) true o J z I->z.length=o.length:=by
 intro o;induction o with
 | nil=>intro J z I h;obtain ⟨_,rfl,_⟩:=trodAll_nil h;rfl
 | cons t o Z=>intro J z I h;obtain ⟨v,aa,d,M,p,q,rfl,rfl,rfl,h0,O⟩:=trodAll_cons h;simp [Z _ _ _ O]
theorem art (hl:laidOutB P=true) {W W':World} (hb:Below W.heap.size W W'):∀ (I:List TypeId) (vs:List Value) (Z:List (DataW H)) (z:List MemPlace),(I.all λt=>P.readableRec t&&decide (t<P.types.size))=true->
 DataW.TrodAll enc P W 0 (λ_=>true) true I vs Z z->∀ O:Nat->Bool,(∀ p∈z,O p.block=true)->(∀ p∈z,p.block<W.heap.size)->DataW.TrodAll enc P W' 0 O true I vs Z z:=by
 intro I
 induction I with
 | nil=>
  intro vs Z z _ h O _ _
  obtain ⟨rfl,rfl,rfl⟩:=trodAll_nil h
  exact trodAll_mk0
 | cons t I ih=>
  intro vs Z z ht h O M J
  simp only [Bj,Ai,A6] at ht
  obtain ⟨v,ab,d,aa,p,q,rfl,rfl,rfl,h0,hr⟩:=trodAll_cons h
  exact trodAll_cons_mk (WideElems.Trod_stays hl ht.1.1 ht.1.2 h0 (λx o=>hb.same (J x (by simp [o]))) (λx o=>M x (by simp [o])))
   (ih ab aa q ht.2 hr O (λx o=>M x (by simp [o])) (λx o=>J x (by simp [o])))
theorem a5w {f:FuncId}{fn:Func}{s:ChangeSpec}{I:Bool}{W:World}{base N:Nat}{args:Array Value}{h gs:List (DataW H)}{aa:List MemPlace}{tb:TypeId}
 (hl:laidOutB P=true) (av:(fn.params.toList.all λt=>P.readableRec t&&decide (t<P.types.size))=true) (M:s.vars=[]) (ab:fn.resultTypes=#[tb]) (am:P.underlying tb=some .bool)
 (hS:ahq P S=true) (ak:(fn.params.toList.all λt=>S.any (Nat.beq t))=true)
 (aq:∀ h:List (DataW H),h.length=fn.params.toList.length->s.fn H h={ results:=[.lit (.bool true)],args:=h })
 (an:∀ (j:Nat) t v,fn.params[j]?=some t->args[j]?=some v->Value.okWide P W .any base t v)
 (hW:DataW.Whole enc P fn.params.toList s.vars I W args.toList h gs aa) (hN:Rows.uptoBulkAll (h++gs)<=N) (ht:Tabs P (λ_=>none) W)
 (hm:∀ z:List PV,z.length=fn.params.toList.length->(∀ (i:Nat) (t:TypeId) (p:PV),fn.params.toList[i]?=some t->z[i]?=some p->∃ n,abe P n t p)->aaw z<=N->
  Meets P f (ahy P fn.params.toList z) [] [.bool true] []):
 Calls P f args W λe W'=>∃ v,e=.returned v/\s.post enc P fn I true false false W args v W':=by
 have ad:=hW
 obtain ⟨p,q,hA,hV,rfl,ar,au⟩:=hW
 rw [M] at hV
 obtain ⟨rfl,rfl⟩:=trodVars_none hV
 simp only [List.append_nil] at ad hN
 obtain ⟨z,J,ae⟩:=axg (S:=S) hS _ _ _ _ ak hA
 obtain ⟨⟨l1,l2,l3⟩,hs⟩:=axh (S:=S) (base:=base) (ow:=λ_=>none) (μ:=id) (st:=[]) hS _ _ _ ak (λj t v hj hv=>an j t v (by simpa using hj) (by simpa using hv)) J
 have ap:h.length=fn.params.toList.length:=by exact atv _ _ _ _ hA
 refine ((hm z l3 (axf _ _ _ J) (Nat.le_trans ae hN)).2 (λb _=>b<W.heap.size) (λ_=>none) id W args
  ⟨by have:=l1;simp only [Array.length_toList] at this l2;rw [this,l2],λi s v hi hv=>hs i s v hi (by simpa using hv),⟨λk b hk=>(by simp at hk),λb k hk=>(by cases hk),λb o hb=>hb,λb k x hk=>(by cases hk)⟩,ht⟩).mono ?_
 rintro e W' ⟨v,D',rfl,hp⟩
 refine ⟨v,rfl,?_⟩
 have hb:Below W.heap.size W W':=⟨hp.os,hp.tape,hp.output,hp.size,λk hk=>hp.old k hk rfl⟩
 have hv:v=.bool true:=by obtain ⟨ax,ay,hr⟩:=hp.rest;have:=hr.res;cases this;rfl
 subst hv
 have ag:∀ x∈p,x.block<W.heap.size:=λx O=>ad.lt x O
 have aj:∀ x∈p,(λb=>decide (b<W.heap.size)) x.block=true:=λx O=>by simpa using ag x O
 have af:s.fn H (h++[])={ results:=[.lit (.bool true)],args:=h }:=by rw [List.append_nil];exact aq h ap
 have al:∀ (b:Nat) (Z:Nat->Bool) (hd:Bool),DataW.TrodAll enc P W' b Z hd fn.resultTypes.toList ((Value.bool true).resultList fn.resultTypes.size) (s.fn H (h++[])).results []:=by intro b Z hd;rw [af,ab];exact trodAll_mk1 (shut_bool am _)
 have ao:∀ Z:Nat->Bool,DataW.TrodVars enc P W' Z s.vars (s.fn H (h++[])).vars []:=by intro Z;rw [af,M];rfl
 have ah:∀ Z:Nat->Bool,(∀ x∈p,Z x.block=true)->DataW.TrodAll enc P W' 0 Z true fn.params.toList args.toList (s.fn H (h++[])).args p:=by intro Z aw;rw [af];exact art hl hb _ _ _ _ av hA Z aw ag
 refine ⟨h,[],p,[],p,[],by simpa using ad,al _ _ _,ah _ aj,ao _,World.keptBut_mono (λx O=>⟨O,?_⟩) (hb.frame (·∈p)),λ_=>?_⟩
 ·exact Or.inr (Or.inl O)
 ·refine ⟨ok_one ab rfl (okWide_bool_mk am _),_,_,([]++p)++[],⟨[]++p,[],trodAll_append (ah _ (λ_ _=>rfl)) (al _ _ _),ao _,rfl,?_,?_⟩,?_⟩
  ·intro b off O;have ai:MemPlace.cell b off∈p:=by simpa using O
   rw [hb.frozen (ag _ ai)];exact ar b off (by simpa using ai)
  ·intro ha;have:=au ha;simpa using this
  ·intro x O _;simpa using O
end
theorem a4m {P:Program}{W:World}{o:String}{k:IntKind}{zs:List Int} (h:Lib.TabIs P W o k zs) {g:Nat} (J:P.globalNamed o=some g):∃ T I,W.heap[g]?=some (.cells (zs.map λz=>Value.int k z).toArray T I):=by
 unfold Lib.TabIs World.var? at h;rw [J] at h;simp only [Ae] at h;split at h
 ·rename_i cs T I M;cases h;exact ⟨T,I,M⟩
 ·cases h
end Go.Ab
