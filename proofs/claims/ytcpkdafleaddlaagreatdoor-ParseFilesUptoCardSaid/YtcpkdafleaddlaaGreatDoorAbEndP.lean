/- From a function's contract over plain data to the law that its row asks for. -/
import Derived.Test.YtcpkdafleaddlaaGreatDoorAbBridgeP
import Derived.Test.YtcpkdafleaddlaaGreatDoorCards
import Derived.Test.YtcpkdafleaddlaaGreatDoorTie
import Derived.ProofKit
import Derived.OpenShut
import Derived.Carry
import Derived.ChangeSame
import Derived.Deep.DeepHandedRow
import Derived.Stop.LaidErr
set_option linter.unusedVariables false
set_option linter.unusedSimpArgs false
set_option linter.unnecessarySimpa false
namespace Go.Ab
open Go Go.Proofs Go.Proofs.YtcpkdafleaddlaaGreatDoor Go.ChangeShapes Go.WideShapes Go.ChangeAt Go.RowKit
def a78 (P:Program) (t:TypeId) (p:PV):SV:=
 match P.underlying t with
 | some .bool=>.bool p.asBool
 | some (.int k)=>.int k p.asInt
 | some .string=>.str p.asStr
 | some (.slice E)=>.slice E p.asList
 | _=>.data t p
section
variable {H:Type}{enc:TypeId×Value->H}{P:Program}{w:World}{S:List TypeId}
def anb (P:Program) (w:World):List TypeId->List Value->List PV->Prop
 | [],[],[]=>True
 | t::ts,v::vs,p::ps=>(Rep P (λb _=>b<w.heap.size) w t p v.cells.toList/\∃ n,ach P n t p)/\anb P w ts vs ps
 | _,_,_=>False
theorem a2y (Z:ai0 P S=true):∀ (ts:List TypeId) (M:List Value) (z:List (DataW H)) (V:List MemPlace),(ts.all λt=>S.any (Nat.beq t))=true->
 DataW.TrodAll enc P w 0 (λ_=>true) true ts M z V->∃ m:List PV,anb P w ts M m/\act m<=Rows.uptoBulkAll z:=by
 intro ts
 induction ts with
 | nil=>
  intro M z V _ h
  obtain ⟨rfl,rfl,rfl⟩:=trodAll_nil h
  exact ⟨[],trivial,by simp [act,Rows.uptoBulkAll]⟩
 | cons t ts ih=>
  intro M z V U h
  simp only [Bh,Ai] at U
  obtain ⟨v,W,d,O,p,q,rfl,rfl,rfl,Y,hr⟩:=trodAll_cons h
  obtain ⟨m,X,g2⟩:=ih W O q U.2 hr
  obtain ⟨o,hf⟩:=Y
  obtain ⟨pv,⟨q1,q2⟩,q3⟩:=ba0 Z o t _ d p U.1 hf
  exact ⟨pv::m,⟨⟨q1,o,q2⟩,X⟩,by simp only [act,Rows.uptoBulkAll];omega⟩
theorem a79 {D:Dom}{ow:Own}{μ:Nat->Nat}{st:List BX}{base:Nat}{t:TypeId}{v:Value}{p:PV}{n:Nat} (V:akw P S t=true) (d:Value.okWide P w .any base t v)
 (M:Rep P D w t p v.cells.toList) (z:ach P n t p):SRep P D w ow μ st (a78 P t p) v:=by
 cases n with
 | zero=>cases z
 | succ n=>
  unfold akw at V
  unfold ach at z
  unfold a78
  split at V
  ·rename_i o;simp only [o] at z ⊢;obtain ⟨b,rfl⟩:=z;obtain ⟨Y,rfl⟩:=okWide_bool o d;simp only [Value.cells] at M;cases M with
   | bool _=>exact .bool
  ·rename_i k o;simp only [o] at z ⊢;obtain ⟨m,rfl,_⟩:=z;have O:∃ U,v=.int k U:=by
    simp only [Value.okWide,o,Cell.okWide,Cell.ok] at d;split at d<;>simp_all
   obtain ⟨U,rfl⟩:=O;simp only [Value.cells] at M;cases M with
   | int _=>exact .int
  ·rename_i o;simp only [o] at z ⊢;obtain ⟨s,rfl⟩:=z;have O:∃ U,v=.string U:=by
    simp only [Value.okWide,o,Cell.okWide,Cell.ok] at d;split at d<;>simp_all
   obtain ⟨U,rfl⟩:=O;simp only [Value.cells] at M;cases M with
   | str _=>exact .str
  ·rename_i E o;simp only [o] at z ⊢;obtain ⟨u,W,X⟩:=M.sliceRep o;have O:∃ a l c,v=.slice a l c:=by
    simp only [Value.okWide,o,Cell.okWide,Cell.ok] at d;split at d<;>simp_all
   obtain ⟨a,l,c,rfl⟩:=O;have:Value.slice a l c=u:=by simpa [Value.cells] using W
   subst this;exact .slice X
  ·rename_i fs o;simp only [o] at z ⊢;have O:∃ cs,v=.agg cs:=by
    simp only [Value.okWide,o] at d;obtain ⟨cs,h,_⟩:=d;exact ⟨cs,h⟩
   obtain ⟨cs,rfl⟩:=O;have:=SRep.data (P:=P) (D:=D) (w:=w) (ow:=ow) (μ:=μ) (st:=st) (T:=t) (v:=p) (cs:=cs.toList) (by simp [aak,o]) (by simpa [Value.cells] using M);simpa using this
  ·cases V
def aje (P:Program) (ts:List TypeId) (d:List PV):List SV:=List.zipWith (a78 P) ts d
theorem a2z {ow:Own}{μ:Nat->Nat}{st:List BX}{base:Nat} (X:ai0 P S=true):∀ (ts:List TypeId) (m:List Value) (d:List PV),(ts.all λt=>S.any (Nat.beq t))=true->
 (∀ (j:Nat) t v,ts[j]?=some t->m[j]?=some v->Value.okWide P w .any base t v)->anb P w ts m d->
 (m.length=ts.length/\(aje P ts d).length=ts.length/\d.length=ts.length)/\∀ (i:Nat) (s:SV) (v:Value),(aje P ts d)[i]?=some s->m[i]?=some v->SRep P (λb _=>b<w.heap.size) w ow μ st s v:=by
 intro ts
 induction ts with
 | nil=>
  intro m d _ _ h
  cases m<;>cases d<;>simp_all [anb,aje]
 | cons t ts Z=>
  intro m d O o h
  simp only [Bh,Ai] at O
  cases m with
  | nil=>cases d<;>cases h
  | cons v m=>
   cases d with
   | nil=>cases h
   | cons p d=>
    obtain ⟨⟨U,n,V⟩,W⟩:=h
    obtain ⟨⟨l1,l2,l3⟩,g⟩:=Z m d O.2 (λj t v Y z=>o (j+1) t v (by simpa using Y) (by simpa using z)) W
    refine ⟨⟨by simp [l1],by simpa [aje] using l2,by simp [l3]⟩,λi s v' M z=>?_⟩
    cases i with
    | zero=>
     simp [aje] at M z
     subst M z
     exact a79 (amf X O.1) (o 0 t v rfl rfl) U V
    | succ i=>exact g i s v' (by simpa [aje] using M) (by simpa using z)
theorem a2x {w:World}:∀ (ts:List TypeId) (m:List Value) (d:List PV),anb P w ts m d->∀ (i:Nat) (t:TypeId) (p:PV),ts[i]?=some t->d[i]?=some p->∃ n,ach P n t p:=by
 intro ts;induction ts with
 | nil=>intro m d _ i t p o;simp at o
 | cons t ts U=>
  intro m d h i V p o z;cases m with
  | nil=>cases d<;>cases h
  | cons v m=>
   cases d with
   | nil=>cases h
   | cons q d=>
    obtain ⟨⟨_,M⟩,O⟩:=h;cases i with
    | zero=>simp at o z;subst o z;exact M
    | succ i=>exact U m d O i V p (by simpa using o) (by simpa using z)
theorem ax7:∀ (ts:List TypeId) (z:List Value) (m:List (DataW H)) (o:List MemPlace),DataW.TrodAll enc P w 0 (λ_=>true) true ts z m o->m.length=ts.length:=by
 intro ts;induction ts with
 | nil=>intro z m o h;obtain ⟨_,rfl,_⟩:=trodAll_nil h;rfl
 | cons t ts U=>intro z m o h;obtain ⟨v,V,d,M,p,q,rfl,rfl,rfl,W,O⟩:=trodAll_cons h;simp [U _ _ _ O]
theorem avr (hl:laidOutB P=true) {W W':World} (hb:Below W.heap.size W W'):∀ (ts:List TypeId) (X:List Value) (U:List (DataW H)) (o:List MemPlace),(ts.all λt=>P.readableRec t&&decide (t<P.types.size))=true->
 DataW.TrodAll enc P W 0 (λ_=>true) true ts X U o->∀ O:Nat->Bool,(∀ p∈o,O p.block=true)->(∀ p∈o,p.block<W.heap.size)->DataW.TrodAll enc P W' 0 O true ts X U o:=by
 intro ts
 induction ts with
 | nil=>
  intro X U o _ h O _ _
  obtain ⟨rfl,rfl,rfl⟩:=trodAll_nil h
  exact trodAll_mk0
 | cons t ts ih=>
  intro X U o V h O M z
  simp only [Bh,Ai,Ay] at V
  obtain ⟨v,Z,d,Y,p,q,rfl,rfl,rfl,h0,hr⟩:=trodAll_cons h
  exact trodAll_cons_mk (WideElems.Trod_stays hl V.1.1 V.1.2 h0 (λx m=>hb.same (z x (by simp [m]))) (λx m=>M x (by simp [m])))
   (ih Z Y q V.2 hr O (λx m=>M x (by simp [m])) (λx m=>z x (by simp [m])))
theorem bcn {f:FuncId}{fn:Func}{s:ChangeSpec}{z:Bool}{W:World}{base N:Nat}{args:Array Value}{d gs:List (DataW H)}{X:List MemPlace}{tb:TypeId}
 (hl:laidOutB P=true) (aq:(fn.params.toList.all λt=>P.readableRec t&&decide (t<P.types.size))=true) (O:s.vars=[]) (Y:fn.resultTypes=#[tb]) (aj:P.underlying tb=some .bool)
 (hS:ai0 P S=true) (ah:(fn.params.toList.all λt=>S.any (Nat.beq t))=true)
 (an:∀ d:List (DataW H),d.length=fn.params.toList.length->s.fn H d={ results:=[.lit (.bool true)],args:=d })
 (ak:∀ (j:Nat) t v,fn.params[j]?=some t->args[j]?=some v->Value.okWide P W .any base t v)
 (hW:DataW.Whole enc P fn.params.toList s.vars z W args.toList d gs X) (hN:Rows.uptoBulkAll (d++gs)<=N) (ht:Tabs P (λ_=>none) W)
 (hm:∀ m:List PV,m.length=fn.params.toList.length->(∀ (i:Nat) (t:TypeId) (p:PV),fn.params.toList[i]?=some t->m[i]?=some p->∃ n,ach P n t p)->act m<=N->
  Meets P f (aje P fn.params.toList m) [] [.bool true] []):
 Calls P f args W λe W'=>∃ v,e=.returned v/\s.post enc P fn z true false false W args v W':=by
 have Z:=hW
 obtain ⟨p,q,hA,hV,rfl,ao,ap⟩:=hW
 rw [O] at hV
 obtain ⟨rfl,rfl⟩:=trodVars_none hV
 simp only [List.append_nil] at Z hN
 obtain ⟨m,M,aa⟩:=a2y (S:=S) hS _ _ _ _ ah hA
 obtain ⟨⟨l1,l2,l3⟩,hs⟩:=a2z (S:=S) (base:=base) (ow:=λ_=>none) (μ:=id) (st:=[]) hS _ _ _ ah (λj t v hj hv=>ak j t v (by simpa using hj) (by simpa using hv)) M
 have am:d.length=fn.params.toList.length:=by exact ax7 _ _ _ _ hA
 refine ((hm m l3 (a2x _ _ _ M) (Nat.le_trans aa hN)).2 (λb _=>b<W.heap.size) (λ_=>none) id W args
  ⟨by have:=l1;simp only [Array.length_toList] at this l2;rw [this,l2],λi s v hi hv=>hs i s v hi (by simpa using hv),⟨λk b hk=>(by simp at hk),λb k hk=>(by cases hk),λb o hb=>hb,λb k x hk=>(by cases hk)⟩,ht⟩).mono ?_
 rintro e W' ⟨v,D',rfl,hp⟩
 refine ⟨v,rfl,?_⟩
 have hb:Below W.heap.size W W':=⟨hp.os,hp.tape,hp.output,hp.size,λk hk=>hp.old k hk rfl⟩
 have hv:v=.bool true:=by obtain ⟨au,av,hr⟩:=hp.rest;have:=hr.res;cases this;rfl
 subst hv
 have ad:∀ x∈p,x.block<W.heap.size:=λx U=>Z.lt x U
 have ag:∀ x∈p,(λb=>decide (b<W.heap.size)) x.block=true:=λx U=>by simpa using ad x U
 have ab:s.fn H (d++[])={ results:=[.lit (.bool true)],args:=d }:=by rw [List.append_nil];exact an d am
 have ai:∀ (b:Nat) (V:Nat->Bool) (hd:Bool),DataW.TrodAll enc P W' b V hd fn.resultTypes.toList ((Value.bool true).resultList fn.resultTypes.size) (s.fn H (d++[])).results []:=by intro b V hd;rw [ab,Y];exact trodAll_mk1 (shut_bool aj _)
 have al:∀ V:Nat->Bool,DataW.TrodVars enc P W' V s.vars (s.fn H (d++[])).vars []:=by intro V;rw [ab,O];rfl
 have ae:∀ V:Nat->Bool,(∀ x∈p,V x.block=true)->DataW.TrodAll enc P W' 0 V true fn.params.toList args.toList (s.fn H (d++[])).args p:=by intro V ar;rw [ab];exact avr hl hb _ _ _ _ aq hA V ar ad
 refine ⟨d,[],p,[],p,[],by simpa using Z,ai _ _ _,ae _ ag,al _,World.keptBut_mono (λx U=>⟨U,?_⟩) (hb.frame (·∈p)),λ_=>?_⟩
 ·exact Or.inr (Or.inl U)
 ·refine ⟨ok_one Y rfl (okWide_bool_mk aj _),_,_,([]++p)++[],⟨[]++p,[],trodAll_append (ae _ (λ_ _=>rfl)) (ai _ _ _),al _,rfl,?_,?_⟩,?_⟩
  ·intro b off U;have af:MemPlace.cell b off∈p:=by simpa using U
   rw [hb.frozen (ad _ af)];exact ao b off (by simpa using af)
  ·intro ha;have:=ap ha;simpa using this
  ·intro x U _;simpa using U
end
theorem bbv {P:Program}{W:World}{d:String}{k:IntKind}{zs:List Int} (h:Lib.TabIs P W d k zs) {g:Nat} (o:P.globalNamed d=some g):∃ T m,W.heap[g]?=some (.cells (zs.map λz=>Value.int k z).toArray T m):=by
 unfold Lib.TabIs World.var? at h;rw [o] at h;simp only [Aa] at h;split at h
 ·rename_i cs T m M;cases h;exact ⟨T,m,M⟩
 ·cases h
theorem avo {P:Program}{n nm:String}{d:DataW Unit}{r:List (String×DataW Unit)}{W:World}{g:Nat}{Y:TypeId}{ms:Array (String×TypeId)}
 (h:laidMet P ((n,.iface nm d)::r) W) (X:P.globalNamed n=some g) (ht:(P.globals[g]?).map (·.type)=some Y) (hi:P.underlying Y=some (.interface ms)):
 ∃ T M t p,W.heap[g]?=some (.cells #[.iface t p] T M):=by
 obtain ⟨ps,⟨g0,t0,z,V,p0,q0,O,U,m,o,_,_⟩,_⟩:=h
 obtain rfl:=Option.some.inj (X.symm.trans O)
 obtain rfl:=Option.some.inj (ht.symm.trans U)
 have Z:∃ t p,z=#[.iface t p]:=by
  cases V with
  | zero=>simp [DataW.trod] at o
  | succ V=>
   obtain ⟨l0⟩:=z;simp only [DataW.trod,hi] at o;split at o;all_goals first
    | (cases ‹some (TypeDesc.interface _)=some _›;done)
    | (cases o;done)
    | (simp at o;done)
    | skip
   all_goals exact ⟨_,_,rfl⟩
 obtain ⟨t,p,rfl⟩:=Z
 unfold World.var? at m
 rw [X] at m
 simp only [Aa] at m
 split at m
 ·rename_i cs T M hh;cases m;exact ⟨T,M,t,p,hh⟩
 ·cases m
end Go.Ab
