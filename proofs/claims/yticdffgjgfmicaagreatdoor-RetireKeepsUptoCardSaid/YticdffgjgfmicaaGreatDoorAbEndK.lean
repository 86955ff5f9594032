/- From a function's contract over plain data to the law that its row asks for. -/
import Derived.Test.YticdffgjgfmicaaGreatDoorAbBridgeK
import Derived.Test.YticdffgjgfmicaaGreatDoorCards
import Derived.Test.YticdffgjgfmicaaGreatDoorTie
import Derived.ProofKit
import Derived.OpenShut
import Derived.Carry
import Derived.ChangeSame
import Derived.Deep.DeepHandedRow
import Derived.Stop.LaidErr
import Derived.Lib.TrailingZeros
set_option linter.unusedVariables false
set_option linter.unusedSimpArgs false
set_option linter.unnecessarySimpa false
namespace Go.Ab
open Go Go.Proofs Go.Proofs.YticdffgjgfmicaaGreatDoor Go.ChangeShapes Go.WideShapes Go.ChangeAt Go.RowKit
def bcc(P:Program)(t:TypeId)(p:PV):SV:=
 match P.underlying t with
 |some .bool=>.bool p.asBool
 |some (.int k)=>.int k p.asInt
 |some .string=>.str p.asStr
 |some (.slice E)=>.slice E p.asList
 |_=>.data t p
section
variable{H:Type}{enc:TypeId×Value->H}{P:Program}{w:World}{S:List TypeId}
def aoo(P:Program)(w:World):List TypeId->List Value->List PV->Prop
 |[],[],[]=>True
 |t::ts,v::vs,p::ps=>(Rep P (λb _=>b<w.heap.size) w t p v.cells.toList/\∃n,aba P n t p)/\aoo P w ts vs ps
 |_,_,_=>False
theorem a6w(W:ajk P S=true):∀(z:List TypeId)(I:List Value)(G:List (DataW H))(ps:List MemPlace),(z.all λt=>S.any (Nat.beq t))=true->
 DataW.TrodAll enc P w 0 (λ_=>true) true z I G ps->∃m:List PV,aoo P w z I m/\abq m<=Rows.uptoBulkAll G:=by
 intro z
 induction z with
 |nil=>
  intro I G ps _ h
  obtain⟨rfl,rfl,rfl⟩:=trodAll_nil h
  exact⟨[],trivial,by simp[abq,Rows.uptoBulkAll]⟩
 |cons t z Z=>
  intro I G ps M h
  simp only[Bb,Ai]at M
  obtain⟨v,O,d,J,p,q,rfl,rfl,rfl,V,Y⟩:=trodAll_cons h
  obtain⟨m,U,g2⟩:=Z O J q M.2 Y
  obtain⟨o,X⟩:=V
  obtain⟨pv,⟨q1,q2⟩,q3⟩:=bff W o t _ d p M.1 X
  exact⟨pv::m,⟨⟨q1,o,q2⟩,U⟩,by simp only[abq,Rows.uptoBulkAll];omega⟩
theorem bcd{D:Dom}{ow:Own}{μ:Nat->Nat}{st:List BX}{base:Nat}{t:TypeId}{v:Value}{p:PV}{n:Nat}(O:alr P S t=true)(o:Value.okWide P w .any base t v)
 (I:Rep P D w t p v.cells.toList) (G:aba P n t p):SRep P D w ow μ st (bcc P t p) v:=by
 cases n with
 |zero=>cases G
 |succ n=>
  unfold alr at O
  unfold aba at G
  unfold bcc
  split at O
  ·rename_i z;simp only[z]at G ⊢;obtain⟨b,rfl⟩:=G;obtain⟨W,rfl⟩:=okWide_bool z o;simp only[Value.cells]at I;cases I with
   |bool _=>exact .bool
  ·rename_i k z;simp only[z]at G ⊢;obtain⟨m,rfl,_⟩:=G;have J:∃M,v=.int k M:=by
    simp only[Value.okWide,z,Cell.okWide,Cell.ok]at o;split at o<;>simp_all
   obtain⟨M,rfl⟩:=J;simp only[Value.cells]at I;cases I with
   |int _=>exact .int
  ·rename_i z;simp only[z]at G ⊢;obtain⟨s,rfl⟩:=G;have J:∃M,v=.string M:=by
    simp only[Value.okWide,z,Cell.okWide,Cell.ok]at o;split at o<;>simp_all
   obtain⟨M,rfl⟩:=J;simp only[Value.cells]at I;cases I with
   |str _=>exact .str
  ·rename_i E z;simp only[z]at G ⊢;obtain⟨u,U,V⟩:=I.sliceRep z;have J:∃a l c,v=.slice a l c:=by
    simp only[Value.okWide,z,Cell.okWide,Cell.ok]at o;split at o<;>simp_all
   obtain⟨a,l,c,rfl⟩:=J;have:Value.slice a l c=u:=by simpa[Value.cells]using U
   subst this;exact .slice V
  ·rename_i X z;simp only[z]at G ⊢;have J:∃cs,v=.agg cs:=by
    simp only[Value.okWide,z]at o;obtain⟨cs,h,_⟩:=o;exact⟨cs,h⟩
   obtain⟨cs,rfl⟩:=J;have:=SRep.data (P:=P) (D:=D) (w:=w) (ow:=ow) (μ:=μ) (st:=st) (T:=t) (v:=p) (cs:=cs.toList) (by simp[aag,z]) (by simpa[Value.cells]using I);simpa using this
  ·rename_i k E z;simp only[z]at G ⊢;have J:∃cs,v=.agg cs:=by
    simp only[Value.okWide,z]at o;obtain⟨cs,h,_⟩:=o;exact⟨cs,h⟩
   obtain⟨cs,rfl⟩:=J;have:=SRep.data (P:=P) (D:=D) (w:=w) (ow:=ow) (μ:=μ) (st:=st) (T:=t) (v:=p) (cs:=cs.toList) (by simp[aag,z]) (by simpa[Value.cells]using I);simpa using this
  ·cases O
def ajr(P:Program)(o:List TypeId)(m:List PV):List SV:=List.zipWith (bcc P) o m
theorem a6x{ow:Own}{μ:Nat->Nat}{st:List BX}{base:Nat}(W:ajk P S=true):∀(o:List TypeId)(z:List Value)(m:List PV),(o.all λt=>S.any (Nat.beq t))=true->
 (∀(j:Nat)t v,o[j]?=some t->z[j]?=some v->Value.okWide P w .any base t v)->aoo P w o z m->
 (z.length=o.length/\(ajr P o m).length=o.length/\m.length=o.length)/\∀(i:Nat)(s:SV)(v:Value),(ajr P o m)[i]?=some s->z[i]?=some v->SRep P (λb _=>b<w.heap.size) w ow μ st s v:=by
 intro o
 induction o with
 |nil=>
  intro z m _ _ h
  cases z<;>cases m<;>simp_all[aoo,ajr]
 |cons t o Y=>
  intro z m M G h
  simp only[Bb,Ai]at M
  cases z with
  |nil=>cases m<;>cases h
  |cons v z=>
   cases m with
   |nil=>cases h
   |cons p m=>
    obtain⟨⟨O,n,U⟩,V⟩:=h
    obtain⟨⟨Z,l2,l3⟩,g⟩:=Y z m M.2 (λj t v X I=>G (j+1) t v (by simpa using X) (by simpa using I)) V
    refine⟨⟨by simp[Z],by simpa[ajr]using l2,by simp[l3]⟩,λi s v' J I=>?_⟩
    cases i with
    |zero=>
     simp[ajr]at J I
     subst J I
     exact bcd (anw W M.1) (G 0 t v rfl rfl) O U
    |succ i=>exact g i s v' (by simpa[ajr]using J) (by simpa using I)
theorem a6v{w:World}:∀(G:List TypeId)(o:List Value)(m:List PV),aoo P w G o m->∀(i:Nat)(t:TypeId)(p:PV),G[i]?=some t->m[i]?=some p->∃n,aba P n t p:=by
 intro G;induction G with
 |nil=>intro o m _ i t p z;simp at z
 |cons t G O=>
  intro o m h i U p z I;cases o with
  |nil=>cases m<;>cases h
  |cons v o=>
   cases m with
   |nil=>cases h
   |cons q m=>
    obtain⟨⟨_,J⟩,M⟩:=h;cases i with
    |zero=>simp at z I;subst z I;exact J
    |succ i=>exact O o m M i U p (by simpa using z) (by simpa using I)
theorem a0w:∀(m:List TypeId)(z:List Value)(o:List (DataW H))(ps:List MemPlace),DataW.TrodAll enc P w 0 (λ_=>true) true m z o ps->o.length=m.length:=by
 intro m;induction m with
 |nil=>intro z o ps h;obtain⟨_,rfl,_⟩:=trodAll_nil h;rfl
 |cons t m J=>intro z o ps h;obtain⟨v,M,d,G,p,q,rfl,rfl,rfl,O,I⟩:=trodAll_cons h;simp[J _ _ _ I]
theorem ayd(hl:laidOutB P=true){W X:World}(Z:Below W.heap.size W X):∀(o:List TypeId)(O:List Value)(J:List (DataW H))(ps:List MemPlace),(o.all λt=>P.readableRec t&&decide (t<P.types.size))=true->
 DataW.TrodAll enc P W 0 (λ_=>true) true o O J ps->∀I:Nat->Bool,(∀p∈ps,I p.block=true)->(∀p∈ps,p.block<W.heap.size)->DataW.TrodAll enc P X 0 I true o O J ps:=by
 intro o
 induction o with
 |nil=>
  intro O J ps _ h I _ _
  obtain⟨rfl,rfl,rfl⟩:=trodAll_nil h
  exact trodAll_mk0
 |cons t o ih=>
  intro O J ps M h I G z
  simp only[Bb,Ai,Ax]at M
  obtain⟨v,V,d,U,p,q,rfl,rfl,rfl,Y,hr⟩:=trodAll_cons h
  exact trodAll_cons_mk (WideElems.Trod_stays hl M.1.1 M.1.2 Y (λx m=>Z.same (z x (by simp[m]))) (λx m=>G x (by simp[m])))
   (ih V U q M.2 hr I (λx m=>G x (by simp[m])) (λx m=>z x (by simp[m])))
theorem bhg{f:FuncId}{fn:Func}{s:ChangeSpec}{apart:Bool}{W:World}{base N:Nat}{args:Array Value}{m gs:List (DataW H)}{O:List MemPlace}{tb:TypeId}
 (hl:laidOutB P=true) (ao:(fn.params.toList.all λt=>P.readableRec t&&decide (t<P.types.size))=true) (I:s.vars=[]) (U:fn.resultTypes=#[tb]) (ah:P.underlying tb=some .bool)
 (hS:ajk P S=true) (af:(fn.params.toList.all λt=>S.any (Nat.beq t))=true)
 (al:∀m:List (DataW H),m.length=fn.params.toList.length->s.fn H m={ results:=[.lit (.bool true)],args:=m })
 (ai:∀(j:Nat)t v,fn.params[j]?=some t->args[j]?=some v->Value.okWide P W .any base t v)
 (hW:DataW.Whole enc P fn.params.toList s.vars apart W args.toList m gs O) (hN:Rows.uptoBulkAll (m++gs)<=N) (ht:Tabs P (λ_=>none) W)
 (hm:∀z:List PV,z.length=fn.params.toList.length->(∀(i:Nat)(t:TypeId)(p:PV),fn.params.toList[i]?=some t->z[i]?=some p->∃n,aba P n t p)->abq z<=N->
  Meets P f (ajr P fn.params.toList z) [] [.bool true] []):
 Calls P f args W λe W'=>∃v,e=.returned v/\s.post enc P fn apart true false false W args v W':=by
 have V:=hW
 obtain⟨p,q,hA,hV,rfl,am,an⟩:=hW
 rw[I]at hV
 obtain⟨rfl,rfl⟩:=trodVars_none hV
 simp only[List.append_nil]at V hN
 obtain⟨z,G,X⟩:=a6w (S:=S) hS _ _ _ _ af hA
 obtain⟨⟨l1,l2,l3⟩,hs⟩:=a6x (S:=S) (base:=base) (ow:=λ_=>none) (μ:=id) (st:=[]) hS _ _ _ af (λj t v hj hv=>ai j t v (by simpa using hj) (by simpa using hv)) G
 have ak:m.length=fn.params.toList.length:=by exact a0w _ _ _ _ hA
 refine((hm z l3 (a6v _ _ _ G) (Nat.le_trans X hN)).2 (λb _=>b<W.heap.size) (λ_=>none) id W args
  ⟨by have:=l1;simp only[Array.length_toList]at this l2;rw[this,l2],λi s v hi hv=>hs i s v hi (by simpa using hv),⟨λk b Z=>(by simp at Z),λb k Z=>(by cases Z),λb o hb=>hb,λb k x Z=>(by cases Z)⟩,ht⟩).mono ?_
 rintro e W' ⟨v,D',rfl,hp⟩
 refine⟨v,rfl,?_⟩
 have hb:Below W.heap.size W W':=⟨hp.os,hp.tape,hp.output,hp.size,λk Z=>hp.old k Z rfl⟩
 have hv:v=.bool true:=by obtain⟨aq,ar,hr⟩:=hp.rest;have:=hr.res;cases this;rfl
 subst hv
 have aa:∀x∈p,x.block<W.heap.size:=λx J=>V.lt x J
 have ae:∀x∈p,(λb=>decide (b<W.heap.size)) x.block=true:=λx J=>by simpa using aa x J
 have Y:s.fn H (m++[])={ results:=[.lit (.bool true)],args:=m }:=by rw[List.append_nil];exact al m ak
 have ag:∀(b:Nat)(M:Nat->Bool)(hd:Bool),DataW.TrodAll enc P W' b M hd fn.resultTypes.toList ((Value.bool true).resultList fn.resultTypes.size) (s.fn H (m++[])).results []:=by intro b M hd;rw[Y,U];exact trodAll_mk1 (shut_bool ah _)
 have aj:∀M:Nat->Bool,DataW.TrodVars enc P W' M s.vars (s.fn H (m++[])).vars []:=by intro M;rw[Y,I];rfl
 have ab:∀M:Nat->Bool,(∀x∈p,M x.block=true)->DataW.TrodAll enc P W' 0 M true fn.params.toList args.toList (s.fn H (m++[])).args p:=by intro M ap;rw[Y];exact ayd hl hb _ _ _ _ ao hA M ap aa
 refine⟨m,[],p,[],p,[],by simpa using V,ag _ _ _,ab _ ae,aj _,World.keptBut_mono (λx J=>⟨J,?_⟩) (hb.frame (·∈p)),λ_=>?_⟩
 ·exact Or.inr (Or.inl J)
 ·refine⟨ok_one U rfl (okWide_bool_mk ah _),_,_,([]++p)++[],⟨[]++p,[],trodAll_append (ab _ (λ_ _=>rfl)) (ag _ _ _),aj _,rfl,?_,?_⟩,?_⟩
  ·intro b off J;have ad:MemPlace.cell b off∈p:=by simpa using J
   rw[hb.frozen (aa _ ad)];exact am b off (by simpa using ad)
  ·intro ha;have:=an ha;simpa using this
  ·intro x J _;simpa using J
end
theorem bf9{P:Program}{W:World}{name:String}{k:IntKind}{zs:List Int}(h:Lib.TabIs P W name k zs){g:Nat}(o:P.globalNamed name=some g):∃T m,W.heap[g]?=some (.cells (zs.map λz=>Value.int k z).toArray T m):=by
 unfold Lib.TabIs World.var? at h;rw[o]at h;simp only[Aa]at h;split at h
 ·rename_i cs T m t;cases h;exact⟨T,m,t⟩
 ·cases h
end Go.Ab
namespace Go.Proofs.YticdffgjgfmicaaGreatDoor
open Go Go.Ab Go.ChangeShapes Go.WideShapes Go.ChangeAt Go.RowKit
theorem own:ownKnob Tryz.prog.godebug=none:=by kernel_rfl
theorem a9i:laidOutB Tryz.prog=true:=by kernel_rfl
theorem gPow:Tryz.prog.globalNamed "internal/strconv.uint64pow10"=some 3:=by kernel_rfl
theorem bdc:(Tryz.prog.globals[3]?).map (·.type)=some 378:=by kernel_rfl
theorem gDb:Tryz.prog.globalNamed "math/bits.deBruijn64tab"=some 5:=by kernel_rfl
theorem bg3:(Tryz.prog.globals[5]?).map (·.type)=some 381:=by kernel_rfl
theorem bck:Tryz.prog.cellsOf 378=20:=by kernel_rfl
theorem bgj:Tryz.prog.cellsOf 381=64:=by kernel_rfl
theorem biq:Tryz.prog.cellsOf 43=1:=by kernel_rfl
theorem bip:Tryz.prog.cellsOf 5=1:=by kernel_rfl
theorem tabs{W:World}(h:laidMetH Tryz.prog Rows.retireKeepsUptoRow.laid W):Tabs Tryz.prog (λ_=>none) W:=by
 have H:laidMet Tryz.prog Rows.retireKeepsUptoRow.laid W:=h;have t:=laidMet.tail H;have I:=laidMet.tail t;have J:Lib.TabIs Tryz.prog W "internal/strconv.uint64pow10" .u64 ((List.range 20).map λi=>((10^i:Nat):Int)):=
  Lib.tabIs_of_head gPow bdc Tryz.underlying378 Tryz.underlying43 biq bck I
 have M:Lib.TabIs Tryz.prog W "math/bits.deBruijn64tab" .u8 (Lib.deBruijn64tab.map λn=>((n:Nat):Int)):=
  Lib.tabIs_of_head gDb bg3 Tryz.underlying381 Tryz.underlying5 bip bgj t
 intro p G g z;simp only[aw2,Bi,List.not_mem_nil,or_false]at G;rcases G with rfl|rfl
 ·obtain⟨T,m,o⟩:=bf9 J z;exact⟨rfl,_,T,m,o,by simp⟩
 ·obtain⟨T,m,o⟩:=bf9 M z;exact⟨rfl,_,T,m,o,by rfl⟩
def awe:List TypeId:=[3,4,9,22,24,25,35,37,38,39,40,42,43,45,58,59,60,61,62,64,66,67,69,70,71,72,74,78,117,119,121,124,125,127,130,180,348]
theorem ao9:ajk Tryz.prog awe=true:=by kernel_rfl
end Go.Proofs.YticdffgjgfmicaaGreatDoor
