/- From a function's contract over plain data to the law that its row asks for. -/
import Derived.Test.YtofplaamkkpciaaGreatDoorAbBridgeR
import Derived.Test.YtofplaamkkpciaaGreatDoorCards
import Derived.Test.YtofplaamkkpciaaGreatDoorTie
import Derived.ProofKit
import Derived.OpenShut
import Derived.Carry
import Derived.ChangeSame
import Derived.Deep.DeepHandedRow
import Derived.Stop.LaidErr
import Derived.Lib.TrailingZeros
set_option linter.unusedVariables false
set_option linter.unusedSimpArgs false
set_option linter.unnecessarySimpa false
namespace Go.Ab
open Go Go.Proofs Go.Proofs.YtofplaamkkpciaaGreatDoor Go.ChangeShapes Go.WideShapes Go.ChangeAt Go.RowKit
def bdb(P:Program)(t:TypeId)(p:PV):SV:=
 match P.underlying t with
 |some .bool=>.bool p.asBool
 |some (.int k)=>.int k p.asInt
 |some .string=>.str p.asStr
 |some (.slice E)=>.slice E p.asList
 |_=>.data t p
section
variable{H:Type}{enc:TypeId×Value->H}{P:Program}{w:World}{S:List TypeId}
def ao4(P:Program)(w:World):List TypeId->List Value->List PV->Prop
 |[],[],[]=>True
 |t::ts,v::vs,p::ps=>(Rep P (λb _=>b<w.heap.size) w t p v.cells.toList/\∃n,abd P n t p)/\ao4 P w ts vs ps
 |_,_,_=>False
theorem a8c(V:ajt P S=true):∀(z:List TypeId)(vs:List Value)(G:List (DataW H))(ps:List MemPlace),(z.all λt=>S.any (Nat.beq t))=true->
 DataW.TrodAll enc P w 0 (λ_=>true) true z vs G ps->∃m:List PV,ao4 P w z vs m/\abq m<=Rows.uptoBulkAll G:=by
 intro z
 induction z with
 |nil=>
  intro vs G ps _ h
  obtain⟨rfl,rfl,rfl⟩:=trodAll_nil h
  exact⟨[],trivial,by simp[abq,Rows.uptoBulkAll]⟩
 |cons t z Y=>
  intro vs G ps J h
  simp only[Bb,Ai]at J
  obtain⟨v,M,d,I,p,q,rfl,rfl,rfl,U,X⟩:=trodAll_cons h
  obtain⟨m,O,g2⟩:=Y M I q J.2 X
  obtain⟨o,W⟩:=U
  obtain⟨Z,⟨q1,q2⟩,q3⟩:=bf9 V o t _ d p J.1 W
  exact⟨Z::m,⟨⟨q1,o,q2⟩,O⟩,by simp only[abq,Rows.uptoBulkAll];omega⟩
theorem bdc{D:Dom}{ow:Own}{μ:Nat->Nat}{st:List BX}{base:Nat}{t:TypeId}{v:Value}{p:PV}{n:Nat}(O:al7 P S t=true)(o:Value.okWide P w .any base t v)
 (I:Rep P D w t p v.cells.toList) (G:abd P n t p):SRep P D w ow μ st (bdb P t p) v:=by
 cases n with
 |zero=>cases G
 |succ n=>
  unfold al7 at O
  unfold abd at G
  unfold bdb
  split at O
  ·rename_i z;simp only[z]at G ⊢;obtain⟨b,rfl⟩:=G;obtain⟨W,rfl⟩:=okWide_bool z o;simp only[Value.cells]at I;cases I with
   |bool _=>exact .bool
  ·rename_i k z;simp only[z]at G ⊢;obtain⟨m,rfl,_⟩:=G;have J:∃M,v=.int k M:=by
    simp only[Value.okWide,z,Cell.okWide,Cell.ok]at o;split at o<;>simp_all
   obtain⟨M,rfl⟩:=J;simp only[Value.cells]at I;cases I with
   |int _=>exact .int
  ·rename_i z;simp only[z]at G ⊢;obtain⟨s,rfl⟩:=G;have J:∃M,v=.string M:=by
    simp only[Value.okWide,z,Cell.okWide,Cell.ok]at o;split at o<;>simp_all
   obtain⟨M,rfl⟩:=J;simp only[Value.cells]at I;cases I with
   |str _=>exact .str
  ·rename_i E z;simp only[z]at G ⊢;obtain⟨u,U,V⟩:=I.sliceRep z;have J:∃a l c,v=.slice a l c:=by
    simp only[Value.okWide,z,Cell.okWide,Cell.ok]at o;split at o<;>simp_all
   obtain⟨a,l,c,rfl⟩:=J;have:Value.slice a l c=u:=by simpa[Value.cells]using U
   subst this;exact .slice V
  ·rename_i X z;simp only[z]at G ⊢;have J:∃cs,v=.agg cs:=by
    simp only[Value.okWide,z]at o;obtain⟨cs,h,_⟩:=o;exact⟨cs,h⟩
   obtain⟨cs,rfl⟩:=J;have:=SRep.data (P:=P) (D:=D) (w:=w) (ow:=ow) (μ:=μ) (st:=st) (T:=t) (v:=p) (cs:=cs.toList) (by simp[aah,z]) (by simpa[Value.cells]using I);simpa using this
  ·rename_i k E z;simp only[z]at G ⊢;have J:∃cs,v=.agg cs:=by
    simp only[Value.okWide,z]at o;obtain⟨cs,h,_⟩:=o;exact⟨cs,h⟩
   obtain⟨cs,rfl⟩:=J;have:=SRep.data (P:=P) (D:=D) (w:=w) (ow:=ow) (μ:=μ) (st:=st) (T:=t) (v:=p) (cs:=cs.toList) (by simp[aah,z]) (by simpa[Value.cells]using I);simpa using this
  ·cases O
def aj1(P:Program)(o:List TypeId)(m:List PV):List SV:=List.zipWith (bdb P) o m
theorem a8d{ow:Own}{μ:Nat->Nat}{st:List BX}{base:Nat}(V:ajt P S=true):∀(o:List TypeId)(vs:List Value)(m:List PV),(o.all λt=>S.any (Nat.beq t))=true->
 (∀(j:Nat)t v,o[j]?=some t->vs[j]?=some v->Value.okWide P w .any base t v)->ao4 P w o vs m->
 (vs.length=o.length/\(aj1 P o m).length=o.length/\m.length=o.length)/\∀(i:Nat)(s:SV)(v:Value),(aj1 P o m)[i]?=some s->vs[i]?=some v->SRep P (λb _=>b<w.heap.size) w ow μ st s v:=by
 intro o
 induction o with
 |nil=>
  intro vs m _ _ h
  cases vs<;>cases m<;>simp_all[ao4,aj1]
 |cons t o X=>
  intro vs m J z h
  simp only[Bb,Ai]at J
  cases vs with
  |nil=>cases m<;>cases h
  |cons v vs=>
   cases m with
   |nil=>cases h
   |cons p m=>
    obtain⟨⟨M,n,O⟩,U⟩:=h
    obtain⟨⟨l1,l2,l3⟩,g⟩:=X vs m J.2 (λj t v W G=>z (j+1) t v (by simpa using W) (by simpa using G)) U
    refine⟨⟨by simp[l1],by simpa[aj1]using l2,by simp[l3]⟩,λi s Y I G=>?_⟩
    cases i with
    |zero=>
     simp[aj1]at I G
     subst I G
     exact bdc (aob V J.1) (z 0 t v rfl rfl) M O
    |succ i=>exact g i s Y (by simpa[aj1]using I) (by simpa using G)
theorem a8b{w:World}:∀(z:List TypeId)(vs:List Value)(m:List PV),ao4 P w z vs m->∀(i:Nat)(t:TypeId)(p:PV),z[i]?=some t->m[i]?=some p->∃n,abd P n t p:=by
 intro z;induction z with
 |nil=>intro vs m _ i t p o;simp at o
 |cons t z M=>
  intro vs m h i O p o G;cases vs with
  |nil=>cases m<;>cases h
  |cons v vs=>
   cases m with
   |nil=>cases h
   |cons q m=>
    obtain⟨⟨_,I⟩,J⟩:=h;cases i with
    |zero=>simp at o G;subst o G;exact I
    |succ i=>exact M vs m J i O p (by simpa using o) (by simpa using G)
theorem a1u:∀(m:List TypeId)(vs:List Value)(o:List (DataW H))(ps:List MemPlace),DataW.TrodAll enc P w 0 (λ_=>true) true m vs o ps->o.length=m.length:=by
 intro m;induction m with
 |nil=>intro vs o ps h;obtain⟨_,rfl,_⟩:=trodAll_nil h;rfl
 |cons t m I=>intro vs o ps h;obtain⟨v,J,d,z,p,q,rfl,rfl,rfl,M,G⟩:=trodAll_cons h;simp[I _ _ _ G]
theorem ay5(Z:laidOutB P=true){W V:World}(Y:Below W.heap.size W V):∀(o:List TypeId)(vs:List Value)(J:List (DataW H))(ps:List MemPlace),(o.all λt=>P.readableRec t&&decide (t<P.types.size))=true->
 DataW.TrodAll enc P W 0 (λ_=>true) true o vs J ps->∀I:Nat->Bool,(∀p∈ps,I p.block=true)->(∀p∈ps,p.block<W.heap.size)->DataW.TrodAll enc P V 0 I true o vs J ps:=by
 intro o
 induction o with
 |nil=>
  intro vs J ps _ h I _ _
  obtain⟨rfl,rfl,rfl⟩:=trodAll_nil h
  exact trodAll_mk0
 |cons t o ih=>
  intro vs J ps M h I G z
  simp only[Bb,Ai,Ax]at M
  obtain⟨v,U,d,O,p,q,rfl,rfl,rfl,X,hr⟩:=trodAll_cons h
  exact trodAll_cons_mk (WideElems.Trod_stays Z M.1.1 M.1.2 X (λx m=>Y.same (z x (by simp[m]))) (λx m=>G x (by simp[m])))
   (ih U O q M.2 hr I (λx m=>G x (by simp[m])) (λx m=>z x (by simp[m])))
theorem bib{f:FuncId}{fn:Func}{s:ChangeSpec}{apart:Bool}{W:World}{base N:Nat}{args:Array Value}{m gs:List (DataW H)}{O:List MemPlace}{tb:TypeId}
 (hl:laidOutB P=true) (ao:(fn.params.toList.all λt=>P.readableRec t&&decide (t<P.types.size))=true) (I:s.vars=[]) (U:fn.resultTypes=#[tb]) (ah:P.underlying tb=some .bool)
 (hS:ajt P S=true) (af:(fn.params.toList.all λt=>S.any (Nat.beq t))=true)
 (al:∀m:List (DataW H),m.length=fn.params.toList.length->s.fn H m={ results:=[.lit (.bool true)],args:=m })
 (ai:∀(j:Nat)t v,fn.params[j]?=some t->args[j]?=some v->Value.okWide P W .any base t v)
 (hW:DataW.Whole enc P fn.params.toList s.vars apart W args.toList m gs O) (hN:Rows.uptoBulkAll (m++gs)<=N) (ht:Tabs P (λ_=>none) W)
 (hm:∀z:List PV,z.length=fn.params.toList.length->(∀(i:Nat)(t:TypeId)(p:PV),fn.params.toList[i]?=some t->z[i]?=some p->∃n,abd P n t p)->abq z<=N->
  Meets P f (aj1 P fn.params.toList z) [] [.bool true] []):
 Calls P f args W λe W'=>∃v,e=.returned v/\s.post enc P fn apart true false false W args v W':=by
 have V:=hW
 obtain⟨p,q,hA,hV,rfl,am,an⟩:=hW
 rw[I]at hV
 obtain⟨rfl,rfl⟩:=trodVars_none hV
 simp only[List.append_nil]at V hN
 obtain⟨z,G,X⟩:=a8c (S:=S) hS _ _ _ _ af hA
 obtain⟨⟨l1,l2,l3⟩,hs⟩:=a8d (S:=S) (base:=base) (ow:=λ_=>none) (μ:=id) (st:=[]) hS _ _ _ af (λj t v hj hv=>ai j t v (by simpa using hj) (by simpa using hv)) G
 have ak:m.length=fn.params.toList.length:=by exact a1u _ _ _ _ hA
 refine((hm z l3 (a8b _ _ _ G) (Nat.le_trans X hN)).2 (λb _=>b<W.heap.size) (λ_=>none) id W args
  ⟨by have:=l1;simp only[Array.length_toList]at this l2;rw[this,l2],λi s v hi hv=>hs i s v hi (by simpa using hv),⟨λk b Z=>(by simp at Z),λb k Z=>(by cases Z),λb o hb=>hb,λb k x Z=>(by cases Z)⟩,ht⟩).mono ?_
 rintro e W' ⟨v,D',rfl,hp⟩
 refine⟨v,rfl,?_⟩
 have hb:Below W.heap.size W W':=⟨hp.os,hp.tape,hp.output,hp.size,λk Z=>hp.old k Z rfl⟩
 have hv:v=.bool true:=by obtain⟨aq,ar,hr⟩:=hp.rest;have:=hr.res;cases this;rfl
 subst hv
 have aa:∀x∈p,x.block<W.heap.size:=λx J=>V.lt x J
 have ae:∀x∈p,(λb=>decide (b<W.heap.size)) x.block=true:=λx J=>by simpa using aa x J
 have Y:s.fn H (m++[])={ results:=[.lit (.bool true)],args:=m }:=by rw[List.append_nil];exact al m ak
 have ag:∀(b:Nat)(M:Nat->Bool)(hd:Bool),DataW.TrodAll enc P W' b M hd fn.resultTypes.toList ((Value.bool true).resultList fn.resultTypes.size) (s.fn H (m++[])).results []:=by intro b M hd;rw[Y,U];exact trodAll_mk1 (shut_bool ah _)
 have aj:∀M:Nat->Bool,DataW.TrodVars enc P W' M s.vars (s.fn H (m++[])).vars []:=by intro M;rw[Y,I];rfl
 have ab:∀M:Nat->Bool,(∀x∈p,M x.block=true)->DataW.TrodAll enc P W' 0 M true fn.params.toList args.toList (s.fn H (m++[])).args p:=by intro M ap;rw[Y];exact ay5 hl hb _ _ _ _ ao hA M ap aa
 refine⟨m,[],p,[],p,[],by simpa using V,ag _ _ _,ab _ ae,aj _,World.keptBut_mono (λx J=>⟨J,?_⟩) (hb.frame (·∈p)),λ_=>?_⟩
 ·exact Or.inr (Or.inl J)
 ·refine⟨ok_one U rfl (okWide_bool_mk ah _),_,_,([]++p)++[],⟨[]++p,[],trodAll_append (ab _ (λ_ _=>rfl)) (ag _ _ _),aj _,rfl,?_,?_⟩,?_⟩
  ·intro b off J;have ad:MemPlace.cell b off∈p:=by simpa using J
   rw[hb.frozen (aa _ ad)];exact am b off (by simpa using ad)
  ·intro ha;have:=an ha;simpa using this
  ·intro x J _;simpa using J
end
theorem bg4{P:Program}{W:World}{name:String}{k:IntKind}{zs:List Int}(h:Lib.TabIs P W name k zs){g:Nat}(o:P.globalNamed name=some g):∃T m,W.heap[g]?=some (.cells (zs.map λz=>Value.int k z).toArray T m):=by
 unfold Lib.TabIs World.var? at h;rw[o]at h;simp only[Aa]at h;split at h
 ·rename_i cs T m t;cases h;exact⟨T,m,t⟩
 ·cases h
end Go.Ab
namespace Go.Proofs.YtofplaamkkpciaaGreatDoor
open Go Go.Ab Go.ChangeShapes Go.WideShapes Go.ChangeAt Go.RowKit
theorem own:ownKnob Tryz.prog.godebug=none:=by kernel_rfl
theorem bao:laidOutB Tryz.prog=true:=by kernel_rfl
theorem gPow:Tryz.prog.globalNamed "internal/strconv.uint64pow10"=some 4:=by kernel_rfl
theorem bea:(Tryz.prog.globals[4]?).map (·.type)=some 411:=by kernel_rfl
theorem gDb:Tryz.prog.globalNamed "math/bits.deBruijn64tab"=some 7:=by kernel_rfl
theorem bhy:(Tryz.prog.globals[7]?).map (·.type)=some 418:=by kernel_rfl
theorem bdi:Tryz.prog.cellsOf 411=20:=by kernel_rfl
theorem bhd:Tryz.prog.cellsOf 418=64:=by kernel_rfl
theorem bjw:Tryz.prog.cellsOf 38=1:=by kernel_rfl
theorem bjv:Tryz.prog.cellsOf 5=1:=by kernel_rfl
theorem ad1{H:Type}{enc:TypeId×Value->H}{P:Program}{w:World}{base:Nat}{J:Nat->Bool}{o:Bool}{z:Nat}{t:TypeId}{cs:List Value}{n c:Nat}{e:TypeId}{G:List (DataW H)}{p:List MemPlace}(V:P.underlying t=some (.array n e))(O:P.cellsOf e=c)(h:DataW.trod enc P w base J o z t cs=some (.agg G,p))(i:Nat){d:DataW H}(M:G[i]?=some d):∃m p',DataW.trod enc P w base J o m e ((cs.drop (i*c)).take c)=some (d,p'):=by subst O;obtain⟨xs,m,_,W,_,X,U⟩:=DataW.trod_array V h;cases W;obtain⟨y,I,rfl⟩:=Bf ..▸M |> Option.map_eq_some_iff.1;exact⟨m,y.2,(U i (by have:=(A6.1 I).1;omega)).trans I⟩
theorem a5t{H:Type}{enc:TypeId×Value->H}{P:Program}{w:World}{base:Nat}{J:Nat->Bool}{o:Bool}{m:Nat}{t:TypeId}{cs:List Value}{k:IntKind}{z:Int}{p:List MemPlace}(G:P.underlying t=some (.int k))(h:DataW.trod enc P w base J o m t cs=some (.lit (.int k z),p)):cs=[.int k z]:=by obtain⟨n,rfl,I,_⟩:=DataW.trod_int G h;cases I;rfl
theorem atf{cs:List Value}{a b:Nat}{v:Value}{j c d:Nat}(h:((((cs.drop a).take b).drop c).take d)=[v])(o:j=a+c):cs[j]?=some v:=by
 subst o;have m:((((cs.drop a).take b).drop c).take d)[0]?=some v:=by rw[h];rfl
 simp only[List.getElem?_take,List.getElem?_drop]at m;grind
theorem gFam:Tryz.prog.globalNamed "wireschema/promote.families"=some 5:=by kernel_rfl
theorem bd9:(Tryz.prog.globals[5]?).map (·.type)=some 415:=by kernel_rfl
theorem gBnd:Tryz.prog.globalNamed "wireschema/promote.bounds"=some 3:=by kernel_rfl
theorem bd8:(Tryz.prog.globals[3]?).map (·.type)=some 399:=by kernel_rfl
theorem bgm{P:Program}{W:World}{name:String}{d:DataW Unit}{z:List (String×DataW Unit)}{g:Nat}{t:TypeId}(M:P.globalNamed name=some g)(J:(P.globals[g]?).map (·.type)=some t)(h:laidMet P ((name,d)::z) W):∃cs T G o p,W.heap[g]?=some (.cells cs T G)/\DataW.trod (λ_=>()) P W 0 (λ_=>true) false o t cs.toList=some (d,p):=by
 obtain⟨ps,⟨X,Y,cs,o,p,q,H,I,m,U,_,_⟩,_⟩:=h;obtain rfl:=Option.some.inj (M.symm.trans H);obtain rfl:=Option.some.inj (J.symm.trans I);unfold World.var? at m;rw[M]at m;simp only[Aa]at m;split at m
 ·rename_i O T G V;cases m;exact⟨cs,T,G,o,p,V,U⟩
 ·cases m
theorem bj6 {W:World}{o:List (String×DataW Unit)} (h:laidMet Tryz.prog (("wireschema/promote.families",Rows.laid_wireschema_promote_families)::o) W):∃ cs T t,W.heap[5]?=some (.cells cs T t)/\cs[1]?=some (.int .i64 2)/\cs[2]?=some (.int .i64 2):=by obtain⟨cs,T,t,z,p,M,J⟩:=bgm gFam bd9 h;obtain⟨m,Y,G⟩:=ad1 (c:=9) Tryz.underlying415 (by kernel_rfl) J 0 rfl;obtain⟨V,Z,H⟩:=ad1 (c:=1) Tryz.underlying414 (by kernel_rfl) G 1 rfl;obtain⟨X,p3,I⟩:=ad1 (c:=1) Tryz.underlying414 (by kernel_rfl) G 2 rfl;have O:=atf (a5t Tryz.underlying3 H) (j:=1) rfl;have U:=atf (a5t Tryz.underlying3 I) (j:=2) rfl;exact⟨cs,T,t,M,by simpa using O,by simpa using U⟩
theorem bjp {W:World}{o:List (String×DataW Unit)} (h:laidMet Tryz.prog (("wireschema/promote.bounds",Rows.laid_wireschema_promote_bounds)::o) W):∃ cs T t,W.heap[3]?=some (.cells cs T t)/\cs[2]?=some (.int .u64 2147483648)/\cs[3]?=some (.int .u64 2147483647)/\cs[4]?=some (.int .u64 9223372036854775808)/\cs[5]?=some (.int .u64 9223372036854775807):=by
 obtain⟨cs,T,t,H,p,hh,I⟩:=bgm gBnd bd8 h;have hu:Tryz.prog.cellsOf 38=1:=by kernel_rfl
 obtain⟨m,p1,h1⟩:=ad1 (c:=2) Tryz.underlying399 (by kernel_rfl) I 1 rfl;obtain⟨m',aa,z⟩:=ad1 (c:=2) Tryz.underlying399 (by kernel_rfl) I 2 rfl;obtain⟨J,M,n,hx,_,V,X⟩:=trod_struct2 Tryz.underlying398 h1;obtain⟨O,U,n',G,_,Y,Z⟩:=trod_struct2 Tryz.underlying398 z;obtain⟨J,q0⟩:=J;obtain⟨M,q1⟩:=M;obtain⟨O,r0⟩:=O;obtain⟨U,r1⟩:=U;cases hx;cases G;have k0:=atf (a5t Tryz.underlying38 V) (j:=2) rfl;have k1:=atf (a5t Tryz.underlying38 X) (j:=3) rfl;have k2:=atf (a5t Tryz.underlying38 Y) (j:=4) rfl;have k3:=atf (a5t Tryz.underlying38 Z) (j:=5) rfl;exact⟨cs,T,t,hh,by simpa using k0,by simpa using k1,by simpa using k2,by simpa using k3⟩
theorem tabs{W:World}(h:laidMetH Tryz.prog Rows.registryChecksUptoRow.laid W):Tabs Tryz.prog (λ_=>none) W:=by
 have h2:laidMet Tryz.prog Rows.registryChecksUptoRow.laid W:=h;have J:=laidMet.tail h2;have M:=laidMet.tail J;have h4:Lib.TabIs Tryz.prog W "internal/strconv.uint64pow10" .u64 ((List.range 20).map λi=>((10^i:Nat):Int)):=
  Lib.tabIs_of_head gPow bea Tryz.underlying411 Tryz.underlying38 bjw bdi M
 have h5:Lib.TabIs Tryz.prog W "math/bits.deBruijn64tab" .u8 (Lib.deBruijn64tab.map λn=>((n:Nat):Int)):=
  Lib.tabIs_of_head gDb bhy Tryz.underlying418 Tryz.underlying5 bjv bhd J
 have O:=laidMet.tail (laidMet.tail M);obtain⟨Z,X,ff,G,H⟩:=bj6 O;obtain⟨Y,V,fb,t,z⟩:=bjp (laidMet.tail O);intro p U g m;simp only[als,Bi,List.not_mem_nil,or_false]at U;rcases U with rfl|rfl|rfl|rfl
 ·obtain⟨T,o,I⟩:=bg4 h4 m;exact⟨rfl,_,T,o,I,by simp⟩
 ·obtain⟨T,o,I⟩:=bg4 h5 m;exact⟨rfl,_,T,o,I,by rfl⟩
 ·have e:=gFam.symm.trans m;cases e;exact⟨rfl,Z,X,ff,G,H⟩
 ·have e:=gBnd.symm.trans m;cases e;exact⟨rfl,Y,V,fb,t,z⟩
def aw5:List TypeId:=[3,4,9,22,24,29,31,33,34,35,37,38,40,68,69,70,71,73,77,78,79,80,81,83,85,86,88,90,91,93,95,119,133,392,394,396]
theorem apw:ajt Tryz.prog aw5=true:=by kernel_rfl
end Go.Proofs.YtofplaamkkpciaaGreatDoor
