/- From a function's contract over plain data to the law that its row asks for. -/
import Derived.Test.YtjogoleiodbfdaaGreatDoorAbBridgeE
import Derived.Test.YtjogoleiodbfdaaGreatDoorCards
import Derived.Test.YtjogoleiodbfdaaGreatDoorTie
import Derived.ProofKit
import Derived.OpenShut
import Derived.Carry
import Derived.ChangeSame
import Derived.Deep.DeepHandedRow
import Derived.Stop.LaidErr
set_option linter.unusedVariables false
set_option linter.unusedSimpArgs false
set_option linter.unnecessarySimpa false
namespace Go.Ab
open Go Go.Proofs Go.Proofs.YtjogoleiodbfdaaGreatDoor Go.ChangeShapes Go.WideShapes Go.ChangeAt Go.RowKit
def a3h (P:Program) (t:TypeId) (p:PV):SV:=
 match P.underlying t with
 | some .bool=>.bool p.asBool
 | some (.int k)=>.int k p.asInt
 | some .string=>.str p.asStr
 | some (.slice E)=>.slice E p.asList
 | _=>.data t p
section
variable {H:Type}{enc:TypeId×Value->H}{P:Program}{w:World}{S:List TypeId}
def al4 (P:Program) (w:World):List TypeId->List Value->List PV->Prop
 | [],[],[]=>True
 | t::ts,v::vs,p::ps=>(Rep P (λb _=>b<w.heap.size) w t p v.cells.toList/\∃ n,abg P n t p)/\al4 P w ts vs ps
 | _,_,_=>False
theorem aze (hS:ah8 P S=true):∀ (J:List TypeId) (O:List Value) (M:List (DataW H)) (ps:List MemPlace),(J.all λt=>S.any (Nat.beq t))=true->
 DataW.TrodAll enc P w 0 (λ_=>true) true J O M ps->∃ o:List PV,al4 P w J O o/\aay o<=Rows.uptoBulkAll M:=by
 intro J
 induction J with
 | nil=>
  intro O M ps _ h
  obtain ⟨rfl,rfl,rfl⟩:=trodAll_nil h
  exact ⟨[],trivial,by simp [aay,Rows.uptoBulkAll]⟩
 | cons t J ih=>
  intro O M ps ht h
  simp only [Bk,Aj] at ht
  obtain ⟨v,aa,d,Z,p,q,rfl,rfl,rfl,h0,hr⟩:=trodAll_cons h
  obtain ⟨o,g1,g2⟩:=ih aa Z q ht.2 hr
  obtain ⟨I,hf⟩:=h0
  obtain ⟨pv,⟨q1,q2⟩,q3⟩:=a6g hS I t _ d p ht.1 hf
  exact ⟨pv::o,⟨⟨q1,I,q2⟩,g1⟩,by simp only [aay,Rows.uptoBulkAll];omega⟩
theorem a3i {D:Dom}{ow:Own}{μ:Nat->Nat}{st:List BX}{base:Nat}{t:TypeId}{v:Value}{p:PV}{n:Nat} (hp:ajw P S t=true) (o:Value.okWide P w .any base t v)
 (M:Rep P D w t p v.cells.toList) (J:abg P n t p):SRep P D w ow μ st (a3h P t p) v:=by
 cases n with
 | zero=>cases J
 | succ n=>
  unfold ajw at hp
  unfold abg at J
  unfold a3h
  split at hp
  ·rename_i I;simp only [I] at J ⊢;obtain ⟨b,rfl⟩:=J;obtain ⟨b',rfl⟩:=okWide_bool I o;simp only [Value.cells] at M;cases M with
   | bool _=>exact .bool
  ·rename_i k I;simp only [I] at J ⊢;obtain ⟨m,rfl,_⟩:=J;have O:∃ Z,v=.int k Z:=by
    simp only [Value.okWide,I,Cell.okWide,Cell.ok] at o;split at o<;>simp_all
   obtain ⟨Z,rfl⟩:=O;simp only [Value.cells] at M;cases M with
   | int _=>exact .int
  ·rename_i I;simp only [I] at J ⊢;obtain ⟨s,rfl⟩:=J;have O:∃ Z,v=.string Z:=by
    simp only [Value.okWide,I,Cell.okWide,Cell.ok] at o;split at o<;>simp_all
   obtain ⟨Z,rfl⟩:=O;simp only [Value.cells] at M;cases M with
   | str _=>exact .str
  ·rename_i E I;simp only [I] at J ⊢;obtain ⟨u,hc,hs⟩:=M.sliceRep I;have O:∃ a l c,v=.slice a l c:=by
    simp only [Value.okWide,I,Cell.okWide,Cell.ok] at o;split at o<;>simp_all
   obtain ⟨a,l,c,rfl⟩:=O;have:Value.slice a l c=u:=by simpa [Value.cells] using hc
   subst this;exact .slice hs
  ·rename_i fs I;simp only [I] at J ⊢;have O:∃ cs,v=.agg cs:=by
    simp only [Value.okWide,I] at o;obtain ⟨cs,h,_⟩:=o;exact ⟨cs,h⟩
   obtain ⟨cs,rfl⟩:=O;have:=SRep.data (P:=P) (D:=D) (w:=w) (ow:=ow) (μ:=μ) (st:=st) (T:=t) (v:=p) (cs:=cs.toList) (by simp [aal,I]) (by simpa [Value.cells] using M);simpa using this
  ·cases hp
def aih (P:Program) (o:List TypeId) (h:List PV):List SV:=List.zipWith (a3h P) o h
theorem azf {ow:Own}{μ:Nat->Nat}{st:List BX}{base:Nat} (hS:ah8 P S=true):∀ (I:List TypeId) (J:List Value) (o:List PV),(I.all λt=>S.any (Nat.beq t))=true->
 (∀ (j:Nat) t v,I[j]?=some t->J[j]?=some v->Value.okWide P w .any base t v)->al4 P w I J o->
 (J.length=I.length/\(aih P I o).length=I.length/\o.length=I.length)/\∀ (i:Nat) (s:SV) (v:Value),(aih P I o)[i]?=some s->J[i]?=some v->SRep P (λb _=>b<w.heap.size) w ow μ st s v:=by
 intro I
 induction I with
 | nil=>
  intro J o _ _ h
  cases J<;>cases o<;>simp_all [al4,aih]
 | cons t I ih=>
  intro J o ht M h
  simp only [Bk,Aj] at ht
  cases J with
  | nil=>cases o<;>cases h
  | cons v J=>
   cases o with
   | nil=>cases h
   | cons p o=>
    obtain ⟨⟨h1,n,h2⟩,h3⟩:=h
    obtain ⟨⟨l1,l2,l3⟩,g⟩:=ih J o ht.2 (λj t v hj O=>M (j+1) t v (by simpa using hj) (by simpa using O)) h3
    refine ⟨⟨by simp [l1],by simpa [aih] using l2,by simp [l3]⟩,λi s v' Z O=>?_⟩
    cases i with
    | zero=>
     simp [aih] at Z O
     subst Z O
     exact a3i (alg hS ht.1) (M 0 t v rfl rfl) h1 h2
    | succ i=>exact g i s v' (by simpa [aih] using Z) (by simpa using O)
theorem azd {w:World}:∀ (M:List TypeId) (I:List Value) (o:List PV),al4 P w M I o->∀ (i:Nat) (t:TypeId) (p:PV),M[i]?=some t->o[i]?=some p->∃ n,abg P n t p:=by
 intro M;induction M with
 | nil=>intro I o _ i t p J;simp at J
 | cons t M ih=>
  intro I o h i t' p J O;cases I with
  | nil=>cases o<;>cases h
  | cons v I=>
   cases o with
   | nil=>cases h
   | cons q o=>
    obtain ⟨⟨_,Z⟩,h3⟩:=h;cases i with
    | zero=>simp at J O;subst J O;exact Z
    | succ i=>exact ih I o h3 i t' p (by simpa using J) (by simpa using O)
theorem ave:∀ (o:List TypeId) (M:List Value) (I:List (DataW H)) (J:List MemPlace),DataW.TrodAll enc P w 0 (λ_=>true) true o M I J->I.length=o.length:=by
 intro o;induction o with
 | nil=>intro M I J h;obtain ⟨_,rfl,_⟩:=trodAll_nil h;rfl
 | cons t o ih=>intro M I J h;obtain ⟨v,aa,d,O,p,q,rfl,rfl,rfl,h0,Z⟩:=trodAll_cons h;simp [ih _ _ _ Z]
theorem as5 (hl:laidOutB P=true) {W W':World} (hb:Below W.heap.size W W'):∀ (J:List TypeId) (vs:List Value) (ds:List (DataW H)) (I:List MemPlace),(J.all λt=>P.readableRec t&&decide (t<P.types.size))=true->
 DataW.TrodAll enc P W 0 (λ_=>true) true J vs ds I->∀ Z:Nat->Bool,(∀ p∈I,Z p.block=true)->(∀ p∈I,p.block<W.heap.size)->DataW.TrodAll enc P W' 0 Z true J vs ds I:=by
 intro J
 induction J with
 | nil=>
  intro vs ds I _ h Z _ _
  obtain ⟨rfl,rfl,rfl⟩:=trodAll_nil h
  exact trodAll_mk0
 | cons t J ih=>
  intro vs ds I ht h Z O M
  simp only [Bk,Aj,A5] at ht
  obtain ⟨v,ab,d,aa,p,q,rfl,rfl,rfl,h0,hr⟩:=trodAll_cons h
  exact trodAll_cons_mk (WideElems.Trod_stays hl ht.1.1 ht.1.2 h0 (λx o=>hb.same (M x (by simp [o]))) (λx o=>O x (by simp [o])))
   (ih ab aa q ht.2 hr Z (λx o=>O x (by simp [o])) (λx o=>M x (by simp [o])))
theorem a8r {f:FuncId}{fn:Func}{s:ChangeSpec}{J:Bool}{W:World}{base N:Nat}{args:Array Value}{h gs:List (DataW H)}{aa:List MemPlace}{tb:TypeId}
 (hl:laidOutB P=true) (av:(fn.params.toList.all λt=>P.readableRec t&&decide (t<P.types.size))=true) (O:s.vars=[]) (ab:fn.resultTypes=#[tb]) (am:P.underlying tb=some .bool)
 (hS:ah8 P S=true) (ak:(fn.params.toList.all λt=>S.any (Nat.beq t))=true)
 (aq:∀ h:List (DataW H),h.length=fn.params.toList.length->s.fn H h={ results:=[.lit (.bool true)],args:=h })
 (an:∀ (j:Nat) t v,fn.params[j]?=some t->args[j]?=some v->Value.okWide P W .any base t v)
 (hW:DataW.Whole enc P fn.params.toList s.vars J W args.toList h gs aa) (hN:Rows.uptoBulkAll (h++gs)<=N) (ht:Tabs P (λ_=>none) W)
 (hm:∀ I:List PV,I.length=fn.params.toList.length->(∀ (i:Nat) (t:TypeId) (p:PV),fn.params.toList[i]?=some t->I[i]?=some p->∃ n,abg P n t p)->aay I<=N->
  Meets P f (aih P fn.params.toList I) [] [.bool true] []):
 Calls P f args W λe W'=>∃ v,e=.returned v/\s.post enc P fn J true false false W args v W':=by
 have ad:=hW
 obtain ⟨p,q,hA,hV,rfl,ar,au⟩:=hW
 rw [O] at hV
 obtain ⟨rfl,rfl⟩:=trodVars_none hV
 simp only [List.append_nil] at ad hN
 obtain ⟨I,M,ae⟩:=aze (S:=S) hS _ _ _ _ ak hA
 obtain ⟨⟨l1,l2,l3⟩,hs⟩:=azf (S:=S) (base:=base) (ow:=λ_=>none) (μ:=id) (st:=[]) hS _ _ _ ak (λj t v hj hv=>an j t v (by simpa using hj) (by simpa using hv)) M
 have ap:h.length=fn.params.toList.length:=by exact ave _ _ _ _ hA
 refine ((hm I l3 (azd _ _ _ M) (Nat.le_trans ae hN)).2 (λb _=>b<W.heap.size) (λ_=>none) id W args
  ⟨by have:=l1;simp only [Array.length_toList] at this l2;rw [this,l2],λi s v hi hv=>hs i s v hi (by simpa using hv),⟨λk b hk=>(by simp at hk),λb k hk=>(by cases hk),λb o hb=>hb,λb k x hk=>(by cases hk)⟩,ht⟩).mono ?_
 rintro e W' ⟨v,D',rfl,hp⟩
 refine ⟨v,rfl,?_⟩
 have hb:Below W.heap.size W W':=⟨hp.os,hp.tape,hp.output,hp.size,λk hk=>hp.old k hk rfl⟩
 have hv:v=.bool true:=by obtain ⟨ax,ay,hr⟩:=hp.rest;have:=hr.res;cases this;rfl
 subst hv
 have ag:∀ x∈p,x.block<W.heap.size:=λx Z=>ad.lt x Z
 have aj:∀ x∈p,(λb=>decide (b<W.heap.size)) x.block=true:=λx Z=>by simpa using ag x Z
 have af:s.fn H (h++[])={ results:=[.lit (.bool true)],args:=h }:=by rw [List.append_nil];exact aq h ap
 have al:∀ (b:Nat) (sp:Nat->Bool) (hd:Bool),DataW.TrodAll enc P W' b sp hd fn.resultTypes.toList ((Value.bool true).resultList fn.resultTypes.size) (s.fn H (h++[])).results []:=by intro b sp hd;rw [af,ab];exact trodAll_mk1 (shut_bool am _)
 have ao:∀ sp:Nat->Bool,DataW.TrodVars enc P W' sp s.vars (s.fn H (h++[])).vars []:=by intro sp;rw [af,O];rfl
 have ah:∀ sp:Nat->Bool,(∀ x∈p,sp x.block=true)->DataW.TrodAll enc P W' 0 sp true fn.params.toList args.toList (s.fn H (h++[])).args p:=by intro sp aw;rw [af];exact as5 hl hb _ _ _ _ av hA sp aw ag
 refine ⟨h,[],p,[],p,[],by simpa using ad,al _ _ _,ah _ aj,ao _,World.keptBut_mono (λx Z=>⟨Z,?_⟩) (hb.frame (·∈p)),λ_=>?_⟩
 ·exact Or.inr (Or.inl Z)
 ·refine ⟨ok_one ab rfl (okWide_bool_mk am _),_,_,([]++p)++[],⟨[]++p,[],trodAll_append (ah _ (λ_ _=>rfl)) (al _ _ _),ao _,rfl,?_,?_⟩,?_⟩
  ·intro b off Z;have ai:MemPlace.cell b off∈p:=by simpa using Z
   rw [hb.frozen (ag _ ai)];exact ar b off (by simpa using ai)
  ·intro ha;have:=au ha;simpa using this
  ·intro x Z _;simpa using Z
end
theorem a7c {P:Program}{W:World}{o:String}{k:IntKind}{zs:List Int} (h:Lib.TabIs P W o k zs) {g:Nat} (J:P.globalNamed o=some g):∃ T I,W.heap[g]?=some (.cells (zs.map λz=>Value.int k z).toArray T I):=by
 unfold Lib.TabIs World.var? at h;rw [J] at h;simp only [Aa] at h;split at h
 ·rename_i cs T I M;cases h;exact ⟨T,I,M⟩
 ·cases h
end Go.Ab
