/- Maps. -/
import Derived.Test.YtofplaamkkpciaaGreatDoorAbMem
set_option linter.unusedVariables false
set_option linter.unusedSimpArgs false
set_option linter.unnecessarySimpa false
namespace Go.Ab
open Go
section
variable{Γ:Ctx}{D:Dom}{ow:Own}{μ:Nat->Nat}{st:List BX}{w:World}
theorem agl{P:Program}{s:SV}{v:Value}{T:TypeId}(h:SRep P D w ow μ st s v)(m:isOf P T s=true):pack P T v.cells.toList=v:=by
 have o:∀{u:Value},u.oneCell'=true->aah P T=false->pack P T u.cells.toList=u:=by grind[aet,pack]
 cases h with
 |data G M=>grind[isOf,Nat.eq_of_beq_eq_true,Value.cells,pack]
 |agg t H I O J=>simp only[isOf,Ai]at m;grind[Nat.eq_of_beq_eq_true,Value.cells,pack,aor]
 |bool=>
  unfold isOf at m;split at m<;>first|cases m|skip
  rename_i t;exact o rfl (by simp[aah,t])
 |int=>
  unfold isOf at m;split at m<;>first|cases m|skip
  rename_i t;exact o rfl (by simp[aah,t])
 |str=>
  unfold isOf at m;split at m<;>first|cases m|skip
  rename_i t;exact o rfl (by simp[aah,t])
 |slice z=>
  unfold isOf at m;split at m<;>first|cases m|skip
  rename_i t;cases z<;>exact o rfl (by simp[aah,t])
 |map z=>
  unfold isOf at m;split at m<;>first|cases m|skip
  rename_i t;cases z<;>exact o rfl (by simp[aah,t])
 |lit z=>
  unfold isOf at m;split at m<;>first|cases m|skip
  rename_i t;exact o rfl (by simp[aah,t])
 |nils=>
  unfold isOf at m;split at m<;>first|cases m|skip
  rename_i t;exact o rfl (by simp[aah,t])
 |acc z=>
  unfold isOf at m;split at m<;>first|cases m|skip
  rename_i t;cases z<;>exact o rfl (by simp[aah,t])
 |raw=>simp only[isOf,Ai]at m;grind[rawT,aah]
 |undef=>simp[isOf]at m
 |ifc=>simp[isOf]at m
 |ref=>simp[isOf]at m
 |mref=>simp[isOf]at m
 |iref=>simp[isOf]at m
 |mitr=>simp[isOf]at m
 |sln=>simp[isOf]at m
 |bref=>simp[isOf]at m
 |nx=>simp[isOf]at m
 |arrOld=>simp[isOf]at m
 |arrNil=>simp[isOf]at m
 |arr=>simp[isOf]at m
 |arefOld=>simp[isOf]at m
 |aref=>simp[isOf]at m
 |eref=>simp[isOf]at m
 |asl=>simp[isOf]at m
 |avwOld=>simp[isOf]at m
 |avw=>simp[isOf]at m
 |lits=>simp[isOf]at m
 |eif=>simp[isOf]at m
 |pto=>simp[isOf]at m
 |fn=>simp[isOf]at m
 |tup=>simp[isOf]at m
theorem a2j(x y:Bn):((⟨x.toArray⟩:ByteArray)==⟨y.toArray⟩)=(x==y):=by show(x.toArray==y.toArray)=_;simp
inductive Key1(d:TypeDesc):PV->Value->Prop
 |str (s:Bn):d=.string->Key1 d (.str s) (.string ⟨s.toArray⟩)
 |int (k:IntKind) (n:Int):d=.int k->Key1 d (.int n) (.int k n)
 |bool (b:Bool):d=.bool->Key1 d (.bool b) (.bool b)
inductive KeysL(P:Program):Nat->List Field->List PV->List Value->Prop
 |nil (n:Nat):KeysL P n [] [] []
 |cons {n:Nat}{f:Field}{d:TypeDesc}{fs:List Field}{x:PV}{xs:List PV}{a:Value}{cs:List Value}:f.offset=n->f.name≠ "_"->P.underlying f.type=some d->Key1 d x a->KeysL P (n+1) fs xs cs->KeysL P n (f::fs) (x::xs) (a::cs)
inductive KeyIs(P:Program)(K:TypeId)(d:TypeDesc):PV->Value->Prop
 |one {x:PV}{a:Value}:Key1 d x a->KeyIs P K d x a
 |agg (ds:Array Field) (xs:List PV) (cs:List Value):d=.struct ds->P.stoodInHeld K=false->KeysL P 0 ds.toList xs cs->KeyIs P K d (.agg xs) (.agg cs.toArray)
theorem baj{P:Program}{K:TypeId}(o:ayt P K=true){x:PV}{cs:List Value}(h:Rep P D w K x cs):∃d,P.underlying K=some d/\Key1 d x (pack P K cs):=by
 unfold ayt at o;cases h with
 |bool m=>exact⟨_,m,by simp only[pack,aah,m];exact .bool _ rfl⟩
 |int m=>exact⟨_,m,by simp only[pack,aah,m];exact .int _ _ rfl⟩
 |str m=>exact⟨_,m,by simp only[pack,aah,m];exact .str _ rfl⟩
 |nil m=>grind
 |slice m=>grind
 |agg m=>grind
 |arr m=>grind
 |mapnil m=>grind
 |map _ _ m=>grind
 |raw t=>grind[rawT]
theorem bki{P:Program}{K:TypeId}(m:ayt P K=true):aah P K=false:=by grind[ayt,aah]
theorem bep {P:Program}{cs:List Value}:∀ (o:List Field) (n:Nat) (xs:List PV) (m:Nat),acl P o n=some m->cs.length=m->(∀ f,f∈o->ayt P f.type=true/\f.name≠ "_")->xs.length=o.length->
 (∀(i:Nat)(v:PV)(f:Field),xs[i]?=some v->o[i]?=some f->Rep P D w f.type v ((cs.drop f.offset).take (P.cellsOf f.type)))->n<=m/\KeysL P n o xs (cs.drop n):=by
 intro o
 induction o with
 |nil=>
  intro n xs m h J _ H _
  have:xs=[]:=A5 H
  subst this
  simp[acl]at h
  subst h
  refine⟨Nat.le_refl _,?_⟩
  rw[<-J,List.drop_length]
  exact .nil _
 |cons f o ih=>
  intro n xs m h J V H U
  match xs,H with
  |x::xs,H=>
   simp only[acl]at h
   cases I:(Nat.beq f.offset n&&!(Nat.beq (P.cellsOf f.type) 0)&&(aah P f.type||Nat.beq (P.cellsOf f.type) 1))with
   |false=>grind
   |true=>
    rw[I]at h
    simp only[Ad]at h
    simp only[Ai]at I
    have O:=Ag I.1.1
    obtain⟨W,s2⟩:=V f (by simp)
    have M:P.cellsOf f.type=1:=by have X:=I.2;rw[bki W,Bool.false_or]at X;simp_all
    rw[M]at h
    obtain⟨aa,hk⟩:=ih (n+1) xs m h J (λg hg=>V g (by simp[hg])) (by simpa using H) (λi v g Y Z=>U (i+1) v g (by simpa using Y) (by simpa using Z))
    have G:=U 0 x f rfl rfl
    obtain⟨d,hd,t⟩:=baj W G
    have z:n<cs.length:=by omega
    rw[M,O,List.drop_eq_getElem_cons z]at t
    refine⟨by omega,?_⟩
    rw[List.drop_eq_getElem_cons z]
    refine .cons O s2 hd ?_ hk
    grind[pack,List.take,List.drop,bki]
theorem ahk{P:Program}{K:TypeId}(o:keyT P K=true){x:PV}{cs:List Value}(h:Rep P D w K x cs):∃d,P.underlying K=some d/\KeyIs P K d x (pack P K cs):=by
 by_cases M:ayt P K=true
 ·obtain⟨d,I,J⟩:=baj M h;exact⟨d,I,.one J⟩
 ·unfold keyT at o;unfold ayt at M;split at o
  ·grind
  ·grind
  ·grind
  ·rename_i H G;simp only[Ai,Bool.not_eq_true']at o;obtain⟨⟨z,k2⟩,X⟩:=o;refine⟨_,G,?_⟩;cases h with
   |agg m O ho W V=>
    rename_i Y vs;rw[G]at m;cases m;unfold acs at z;rw[abj G]at z;dsimp only at z;cases t:acl P H.toList 0 with
    |none=>grind
    |some n=>
     rw[t]at z;have U:=Ag z;have:=(bep (cs:=cs) H.toList 0 vs n t (by rw[O,U]) (λf Z=>by grind) (by simpa using W) (λi v f I J=>V i v f I (by simpa using J))).2
     rw[Ar]at this;have e:pack P K cs=.agg cs.toArray:=by simp[pack,aah,G]
     rw[e];exact .agg H vs cs rfl X this
   |bool m=>grind
   |int m=>grind
   |str m=>grind
   |nil m=>grind
   |slice m=>grind
   |arr m=>grind
   |mapnil m=>grind
   |map _ _ m=>grind
   |raw hr=>grind[rawT]
  ·cases o
theorem bb3{d:TypeDesc}{x y:PV}{a b:Value}(G:Key1 d x a)(z:Key1 d y b):Instr.sameNow d a b=some (aef x y):=by
 cases G with
 |str s o=>subst o;cases z with
  |str t _=>simp[Instr.sameNow,aef,a2j]
  |int _ _ h=>cases h
  |bool _ h=>cases h
 |int k n o=>subst o;cases z with
  |int H m h=>grind[Instr.sameNow,aef]
  |str _ h=>cases h
  |bool _ h=>cases h
 |bool p o=>subst o;cases z with
  |bool q _=>simp[Instr.sameNow,aef]
  |int _ _ h=>cases h
  |str _ h=>cases h
theorem bh4{P:Program}{T:TypeId}{d:TypeDesc}(G:P.underlying T=some d){x y:PV}{a b:Value}(H:Key1 d x a)(z:Key1 d y b)(n:Nat)(w:World):(Op.equalIn (n+1) T a b).run P w=.ok (aef x y) w:=by
 cases H with
 |str s o=>subst o;cases z with
  |str t _=>grind[run_equalIn_string,ByteArray.toList_mk,aef]
  |int _ _ h=>cases h
  |bool _ h=>cases h
 |int k J o=>subst o;cases z with
  |int I m h=>cases h;exact run_equalIn_int w n T k k _ _ G
  |str _ h=>cases h
  |bool _ h=>cases h
 |bool p o=>subst o;cases z with
  |bool q _=>exact run_equalIn_bool w n T _ _ G
  |int _ _ h=>cases h
  |str _ h=>cases h
theorem bai{P:Program}{T:TypeId}{d:TypeDesc}(o:P.underlying T=some d){x:PV}{a:Value}(z:Key1 d x a){A:Array Value}{off:Nat}(h:A[off]?=some a)(w:World):(part T A off).run P w=.ok a w:=by
 have t:aah P T=false:=by
  unfold aah;rw[o];cases z with
  |str _ m=>subst m;rfl
  |int _ _ m=>subst m;rfl
  |bool _ m=>subst m;rfl
 unfold part;simp only[Sem.run_bind,ani (by rw[o];rfl),Result.andThen_ok,t];simp_all
theorem kEqL{P:Program}{A B:Array Value}{w:World}(m:Nat):∀{n:Nat}{G:List Field}{xs:List PV}{cs:List Value},KeysL P n G xs cs->∀{ys:List PV}{es:List Value},KeysL P n G ys es->(∀(i:Nat)(a:Value),cs[i]?=some a->A[n+i]?=some a)->(∀(i:Nat)(a:Value),es[i]?=some a->B[n+i]?=some a)->
 (Op.eqFields (m+1) A B G).run P w=.ok (aqf xs ys) w:=by
 intro n G xs cs h
 induction h with
 |nil n=>
  intro ys es o _ _
  cases o
  simp[Op.eqFields,aqf]
 |@cons n f d fs x xs a cs M V H J _ Y=>
  intro ys es o O hB
  cases o with
  |@cons _ _ d' _ y ys b es X W t z o=>
   rw[H]at t;cases t
   have Z:=bai H J (A:=A) (off:=f.offset) (by rw[M];exact O 0 a rfl) w
   have p2:=bai H z (A:=B) (off:=f.offset) (by rw[M];exact hB 0 b rfl) w
   have U:=bh4 H J z m w
   have I:=Y o (λi a I=>by rw[show n+1+i=n+(i+1) by omega];all_goals simp_all) (λi a I=>by rw[show n+1+i=n+(i+1) by omega];all_goals simp_all)
   simp only[Op.eqFields,V,ne_eq,not_false_eq_true,A8,Sem.run_bind,Z,p2,U,Result.andThen_ok,aqf]
   cases aef x y
   all_goals simp_all
theorem bh5{P:Program}{K:TypeId}{m:Array Field}(O:P.underlying K=some (.struct m)){x y:PV}{a b:Value}(V:KeyIs P K (.struct m) x a)(W:KeyIs P K (.struct m) y b)(w:World):(Op.equal K a b).run P w=.ok (ahj x y) w:=by
 have Y:∀{x:PV}{a:Value},Key1 (.struct m) x a->False:=λh=>by cases h<;>rename_i h<;>cases h
 have U:P.fieldsOf K=m:=by simp[Program.fieldsOf,O]
 cases V with
 |one h=>grind
 |agg t xs cs G H I=>
  cases G;cases W with
  |one h=>grind
  |agg z ys es J X M=>cases J;show(Op.equalIn 10000 K _ _).run P w=_;rw[run_equalIn_struct w 9999 K _ _ (by grind) H,U];exact kEqL 9998 I M (λi a o=>by simpa using o) (λi a o=>by simpa using o)
def asz(P:Program)(K:TypeId)(o:Value)(l:List MapEntry)(i:Nat)(d:TypeDesc)(r:Option (Nat×Value)):Prop:=
 (∀m,d≠.struct m)/\Instr.findNow d o l i=some r\/(∃m,d=.struct m)/\∀w,(Instr.findAsking K o l i).run P w=.ok r w
theorem a5l{P:Program}{K:TypeId}{t:Value}(d:TypeDesc):asz P K t [] 0 d none:=by
 by_cases o:∃m,d=.struct m
 ·exact Or.inr ⟨o,λw=>by simp[Instr.findAsking]⟩
 ·exact Or.inl ⟨λm h=>o ⟨m,h⟩,rfl⟩
theorem am4{P:Program}{K:TypeId}{d:TypeDesc}(hK:P.underlying K=some d){k:PV}{J:Value}(hk:KeyIs P K d k J):∀(l:List MapEntry)(es:List (PV×PV))(i:Nat),l.length=es.length->
 (∀(j:Nat)(e:MapEntry)(x:PV×PV),l[j]?=some e->es[j]?=some x->KeyIs P K d x.1 e.key)->
 (∃(j:Nat)(x:PV×PV)(e:MapEntry),es[j]?=some x/\l[j]?=some e/\ahj k x.1=true/\PV.mget es k=some x.2/\asz P K J l i d (some (i+j,e.val))/\(∀v,PV.mput es k v=es.set j (x.1,v))/\PV.midx es k=j)\/
 (PV.mget es k=none/\asz P K J l i d none/\(∀v,PV.mput es k v=es++[(k,v)])/\PV.midx es k=es.length):=by
 intro l
 induction l with
 |nil=>
  intro es i X _
  have:es=[]:=A5 (by grind)
  subst this
  refine Or.inr ⟨rfl,?_,λv=>rfl,rfl⟩
  by_cases M:∃m,d=.struct m
  ·exact Or.inr ⟨M,λw=>by simp[Instr.findAsking]⟩
  ·exact Or.inl ⟨λm h=>M ⟨m,h⟩,rfl⟩
 |cons e r ih=>
  intro es i X H
  cases es with
  |nil=>simp at X
  |cons x q=>
   have O:=H 0 e x rfl rfl
   have step:∀(b:Bool),ahj k x.1=b->((∀m,d≠.struct m)/\Instr.sameNow d J e.key=some b)\/((∃m,d=.struct m)/\∀w,(Op.equal K J e.key).run P w=.ok b w):=by
    rintro b rfl;by_cases M:∃m,d=.struct m
    ·obtain⟨m,rfl⟩:=M;exact Or.inr ⟨⟨m,rfl⟩,λw=>bh5 hK hk O w⟩
    ·refine Or.inl ⟨λm h=>M ⟨m,h⟩,?_⟩;have e1:∀{p q:PV}{a b:Value},Key1 d p a->Key1 d q b->ahj p q=aef p q:=λo t=>by cases o<;>rfl
     cases hk with
     |agg m _ _ h=>grind
     |one o=>
      generalize x.1=p at O ⊢;generalize e.key=q at O ⊢;cases O with
      |agg m _ _ h=>grind
      |one t=>grind[bb3]
   cases z:ahj k x.1 with
   |true=>
    refine Or.inl ⟨0,x,e,rfl,rfl,z,by simp[PV.mget,z],?_,λv=>by simp[PV.mput,z],by simp[PV.midx,z]⟩
    rcases step true z with⟨o,t⟩|⟨o,t⟩
    ·exact Or.inl ⟨o,by simp[Instr.findNow,t]⟩
    ·exact Or.inr ⟨o,λw=>by simp[Instr.findAsking,t]⟩
   |false=>
    have:=ih q (i+1) (by simpa using X) (λj U Z o t=>H (j+1) U Z (by simpa using o) (by simpa using t))
    have I:∀{Y:Option (Nat×Value)},asz P K J r (i+1) d Y->asz P K J (e::r) i d Y:=by
     intro Y h;rcases step false z with⟨o,t⟩|⟨o,t⟩
     ·rcases h with⟨_,G⟩|⟨⟨m,G⟩,_⟩
      ·exact Or.inl ⟨o,by grind[Instr.findNow]⟩
      grind
     ·rcases h with⟨G,_⟩|⟨_,G⟩
      ·obtain⟨m,V⟩:=o;exact absurd V (G m)
      ·exact Or.inr ⟨o,λw=>by simp[Instr.findAsking,t,G]⟩
    rcases this with⟨j,Z,U,o,t,G,V,h5,h6,W⟩|⟨o,t,G,W⟩
    ·refine Or.inl ⟨j+1,Z,U,by simpa using o,by simpa using t,G,?_,?_,λv=>?_,by simp[PV.midx,z,W]⟩
     ·simpa[PV.mget,z]using V
     ·have:=I h5;rwa[show i+1+j=i+(j+1) by omega]at this
     ·simp[PV.mput,z,h6]
    ·refine Or.inr ⟨by simpa[PV.mget,z]using o,I t,λv=>by simp[PV.mput,z,G],by simp[PV.midx,z,W]⟩
theorem ami{P:Program}{K:TypeId}{d:TypeDesc}{k:PV}{z:Value}(t:P.underlying K=some d)(G:Key1 d k z)(e:Bool)(n:Nat)(w:World):(Instr.checkKey e (n+1) K z).run P w=.ok () w:=by
 cases G with
 |str s o=>subst o;simp[Instr.checkKey,run_underlying t]
 |int H m o=>subst o;simp[Instr.checkKey,run_underlying t]
 |bool b o=>subst o;simp[Instr.checkKey,run_underlying t]
theorem ac5{P:Program}{K:TypeId}{d:TypeDesc}{k:PV}{J:Value}(G:P.underlying K=some d)(o:KeyIs P K d k J)(e:Bool)(n:Nat)(w:World):(Instr.checkKey e (n+2) K J).run P w=.ok () w:=by
 cases o with
 |one h=>exact ami G h e (n+1) w
 |agg M xs cs O h1 t=>
  subst O;rw[Instr.checkKey];simp only[Sem.run_bind,run_underlying G,Result.andThen_ok];rw[<-Array.forIn_toList];have m:∀(i:Nat)(a:Value),cs[i]?=some a->cs.toArray[0+i]?=some a:=λi a H=>by simpa using H
  clear G;generalize cs.toArray=A at m ⊢;generalize M.toList=L at t ⊢;generalize 0=z at t m;induction t with
  |nil=>simp
  |@cons z f d Z x xs a cs V U I o _ W=>have X:=bai I o (A:=A) (off:=f.offset) (by rw[V];exact m 0 a rfl) w;have Y:=ami I o e n w;simp only[List.forIn_cons,Sem.run_bind,U,ne_eq,not_false_eq_true,A8,Result.andThen_ok,X,Y,Sem.run_pure];exact W (λi a H=>by rw[show z+1+i=z+(i+1) by omega];exact m (i+1) a (by simpa using H))
theorem abo{T:TypeId}(h:acg Γ.P T=true):∃(i:TypeInfo)(z:Value),Γ.P.info? T=some i/\i.zero=some z/\i.size=Γ.P.cellsOf T/\z.cells.size=Γ.P.cellsOf T/\z=pack Γ.P T z.cells.toList/\
 SRep Γ.P D w ow μ st (aa8 Γ.P 12 T) z/\(∀c,c∈z.cells.toList->c.oneCell'=true):=by
 unfold acg at h
 cases o:Γ.P.info? T with
 |none=>rw[o]at h;simp at h
 |some i=>
  rw[o]at h
  simp only[Option.map_some]at h
  cases t:i.zero with
  |none=>rw[t]at h;simp at h
  |some z=>
   rw[t]at h
   simp only[Ai]at h
   obtain⟨⟨I,J⟩,m⟩:=h
   obtain⟨G,H⟩:=a7j (P:=Γ.P) (D:=D) (ow:=ow) (μ:=μ) (st:=st) (w:=w) 12 T _ I
   have e:z=pack Γ.P T z.cells.toList:=by
    unfold pack;cases z with
    |agg cs=>simp at m;simp[m,Value.cells]
    |tuple vs=>have:=H (.tuple vs) (by simp[Value.cells]);simp[Value.oneCell']at this
    |_=>simp at m;simp[m,Value.cells]
   exact⟨i,z,rfl,t,by simp[Program.cellsOf,o],Ag J,e,by rw[<-e]at G;exact G,H⟩
theorem adw{P:Program}{K:TypeId}{d:TypeDesc}{o:Value}{es:List MapEntry}{r:Option (Nat×Value)}(m:P.underlying K=some d)(h:asz P K o es 0 d r)(w:World):(Instr.findKey K o es).run P w=.ok r w:=by
 rcases h with⟨_,h⟩|⟨⟨t,rfl⟩,h⟩
 ·simp[Instr.findKey,run_underlying m,h]
 ·have h:=h w;cases es with
  |nil=>simp[Instr.findKey,run_underlying m,Instr.findNow];simpa[Instr.findAsking]using h
  |cons e es=>simp[Instr.findKey,run_underlying m,Instr.findNow,Instr.sameNow];exact h
theorem aqi(T K E:TypeId)(hT:Γ.P.underlying T=some (.map K E))(ks:SV)(kv:Value)(o:Bool)(M:keyT Γ.P K=true)(hk:SRep Γ.P D w ow μ st ks kv)(O:isOf Γ.P K ks=true)(hz:acg Γ.P E=true)(ad:isOf Γ.P E (aa8 Γ.P 12 E)=true)
 (r clock:Nat) (ents:Array MapEntry) (es:List (PV×PV)) (kc vc:Nat->List Value) (hh:w.heap[r]?=some (.map ents clock)) (aa:ents.size=es.length)
 (h1:∀(i:Nat)(x:PV×PV),es[i]?=some x->Rep Γ.P D w K x.1 (kc i)) (h2:∀(i:Nat)(x:PV×PV),es[i]?=some x->Rep Γ.P D w E x.2 (vc i))
 (h3:∀(i:Nat)(e:MapEntry),ents[i]?=some e->e.key=pack Γ.P K (kc i)/\e.val=pack Γ.P E (vc i)):
 ∃u,(Instr.lookup T (.map (some r)) kv o).run Γ.P w=.ok u w/\SRep Γ.P D w ow μ st (akq Γ.P E es (toPV ks) o) u:=by
 have Z:=aa9 hk K O
 have Y:=agl hk O
 obtain⟨d,t,m⟩:=ahk M Z
 rw[Y]at m
 obtain⟨i,z,hi,X,ag,ah,ab,ae,af⟩:=abo (Γ:=Γ) (D:=D) (ow:=ow) (μ:=μ) (st:=st) (w:=w) hz
 have H:∀(j:Nat)(e:MapEntry)(x:PV×PV),ents.toList[j]?=some e->es[j]?=some x->KeyIs Γ.P K d x.1 e.key:=by intro j e x W U;obtain⟨d',I,hy⟩:=ahk M (h1 j x U);rw[t]at I;cases I;rw[(h3 j e (by simpa using W)).1];exact hy
 have fin:∀(x:PV)(val:Value),SRep Γ.P D w ow μ st (ofPV Γ.P E x) val->∀b,PV.mhas es (toPV ks)=b->(PV.mget es (toPV ks)).getD (toPV (aa8 Γ.P 12 E))=x->
  SRep Γ.P D w ow μ st (akq Γ.P E es (toPV ks) o) (if o then .tuple #[val,.bool b]else val):=by
  intro x val U b hb W
  unfold akq
  rw[W,hb]
  cases o
  ·exact U
  ·refine .tup (by simp) (λj s v J G=>?_);match j with
   |0=>simp at J G;subst J;subst G;exact U
   |1=>simp at J G;subst J;subst G;exact .bool
   |(n+2)=>simp at J
 rcases am4 t m ents.toList es 0 (by simpa using aa) H with⟨j,x,e,V,q2,q3,q4,q5,_⟩|⟨V,q2,_⟩
 ·have G:=(h3 j e (by simpa using q2)).2;refine⟨if o then .tuple #[e.val,.bool true]else e.val,?_,fin x.2 e.val (by rw[G];exact(h2 j x V).ofPV) true (by simp[PV.mhas,q4]) (by simp[q4])⟩;simp[Instr.lookup,run_underlying hT,getObj,Sem.run,hh,ac5 t m,adw t q5]
 ·refine⟨if o then .tuple #[z,.bool false]else z,?_,fin (toPV (aa8 Γ.P 12 E)) z ?_ false (by simp[PV.mhas,V]) (by simp[V])⟩
  ·simp[Instr.lookup,run_underlying hT,getObj,Sem.run,hh,ac5 t m,adw t q2,zeroValue,typeInfo,hi,X]
  ·have:=(aa9 ae E ad).ofPV (ow:=ow) (μ:=μ) (st:=st);rwa[<-ab]at this
theorem axw(hw:WRel Γ D ow μ st w)(T:TypeId)(m k:SV)(mv V:Value)(H:Bool)(v:SV)(O:SRep Γ.P D w ow μ st m mv)(M:SRep Γ.P D w ow μ st k V)(h:ac6 Γ.P T st m k H=.val true v):
 ∃u,(Instr.lookup T mv V H).run Γ.P w=.ok u w/\SRep Γ.P D w ow μ st v u:=by
 unfold ac6 at h
 split at h
 ·rename_i K E hT;cases J:(keyT Γ.P K&&isOf Γ.P K k&&acg Γ.P E&&isOf Γ.P E (aa8 Γ.P 12 E))with
  |false=>rw[J]at h;simp at h
  |true=>
   rw[J]at h;simp only[Ad]at h;simp only[Ai]at J;obtain⟨⟨⟨Y,I⟩,Z⟩,c4⟩:=J;split at h
   ·rename_i X W es;cases o:(Nat.beq K X&&Nat.beq E W)with
    |false=>rw[o]at h;simp at h
    |true=>
     rw[o]at h;simp only[Ai]at o;have:=Ag o.1;subst this;have:=Ag o.2;subst this;simp only[Ad,Ac.val.injEq,true_and]at h;subst h;cases O with
     |map O=>
      cases O with
      |nil=>
       have ad:=aa9 M K I;have ab:=agl M I;obtain⟨d,hd,t⟩:=ahk Y ad;rw[ab]at t;obtain⟨i,z,hi,aa,ai,aj,af,ag,ah⟩:=abo (Γ:=Γ) (D:=D) (ow:=ow) (μ:=μ) (st:=st) (w:=w) Z;have hz:=(aa9 ag E c4).ofPV (ow:=ow) (μ:=μ) (st:=st);rw[<-af]at hz;refine⟨if H then .tuple #[z,.bool false]else z,?_,?_⟩
       ·simp[Instr.lookup,run_underlying hT,ac5 hd t,adw hd (a5l d),zeroValue,typeInfo,hi,aa]
       ·unfold akq;have e1:PV.mget [] (toPV k)=none:=rfl;have e2:PV.mhas [] (toPV k)=false:=rfl;rw[e1,e2];cases H
        ·exact hz
        ·refine .tup (by simp) (λj s v G U=>?_);match j with
         |0=>simp at G U;subst G;subst U;exact hz
         |1=>simp at G U;subst G;subst U;exact .bool
         |(n+2)=>simp at G
      |mk kc vc hh hd ae h1 h2 h3=>exact aqi T K E hT k V H Y M I Z c4 _ _ _ es kc vc hh ae h1 h2 h3.1
   ·rename_i j;split at h
    ·rename_i X W es G;cases o:(Nat.beq K X&&Nat.beq E W)with
     |false=>rw[o]at h;simp at h
     |true=>rw[o]at h;simp only[Ai]at o;have:=Ag o.1;subst this;have:=Ag o.2;subst this;simp only[Ad,Ac.val.injEq,true_and]at h;subst h;cases O;obtain⟨ents,clock,kc,vc,r1,_,_,r4,r5,r6,r7,r8⟩:=hw.map j K E es G;exact aqi T K E hT k V H Y M I Z c4 _ _ _ es kc vc r1 r4 r5 r6 r7.1
    ·simp at h
   ·simp at h
 ·simp at h
end
end Go.Ab
namespace Go.Ab
open Go
section
variable{Γ:Ctx}{D:Dom}{ow:Own}{μ:Nat->Nat}{st:List BX}{w:World}
def ad0(D:Dom)(ow:Own)(μ:Nat->Nat)(st:List BX)(fz:List Nat):Dom:=λb o=>D b o\/∃k m,k∈fz/\st[k]?=some m/\((∃K E es,m=.map K E es)\/∃E g xs,m=.arr E g xs)/\ow b=some k/\μ k=b
theorem aec{fz:List Nat}{b o:Nat}(h:ad0 D ow μ st fz b o):D b o\/∃k,k∈fz/\ow b=some k/\∀g,st[k]?≠some (.acc g):=by rcases h with h|⟨k,m,t,z,G,H,I⟩;all_goals grind
theorem ai7(fz:List Nat):Moves D w ow μ st (ad0 D ow μ st fz) w ow μ st:=by refine⟨λ_ _ d=>Or.inl d,Keeps.refl _ _,λk T s e=>⟨rfl,s,e⟩,λk K E es e=>⟨rfl,es,e⟩,λk b e _=>⟨rfl,b,e,rfl⟩,λk E g xs e=>⟨g,xs,e,Nat.le_refl _,λ_=>⟨rfl,ArrKeep.refl _ _ _ _ _⟩⟩,λk g e=>⟨g,e,Nat.le_refl _,λ_ b m=>⟨rfl,m,λo d=>?_⟩⟩⟩;grind[aec,absurd]
theorem a9n{k g:Nat}{E:TypeId}{xs:List PV}{v:Value}{fz:List Nat}(hw:WRel Γ D ow μ st w)(h:SRep Γ.P D w ow μ st (.arr k g E) v)(I:ad1 st k g E=some xs)(O:k∈fz):SRep Γ.P (ad0 D ow μ st fz) w ow μ st (.slice E xs) v:=by
 have m:Moves D w ow μ st (ad0 D ow μ st fz) w ow μ st:=ai7 fz;have H:=ab1 I;cases h with
 |arrOld o z=>grind
 |arrNil o=>rw[H]at o;cases o;exact .slice (.nil λ_=>rfl)
 |@arr _ _ cap _ _ t o W X hc Y Z=>
  rw[H]at o;cases o;have G:xs.length*Γ.P.cellsOf E<=t.size/\∀(i:Nat)(x:PV),xs[i]?=some x->Rep Γ.P D w E x ((t.toList.drop (i*Γ.P.cellsOf E)).take (Γ.P.cellsOf E)):=by rcases hw.obj k _ H with h0|⟨J,q1,q2,q3,q4,q5⟩;all_goals grind
  refine .slice (.mk (L:=t.toList.take (xs.length*Γ.P.cellsOf E)) W (by simp;omega) (λi x U=>?_) (λj v V=>?_))
  ·have M:(i+1)*Γ.P.cellsOf E<=xs.length*Γ.P.cellsOf E:=Au _ (by grind);rw[Nat.add_mul]at M;rw[List.drop_take,List.take_take,Nat.min_eq_left (by omega)];exact(G.2 i x U).mono m.dom m.keeps
  ·have z:j<xs.length*Γ.P.cellsOf E:=by grind
   rw[List.getElem?_take_of_lt z]at V;refine⟨Or.inr ⟨k,_,O,H,Or.inr ⟨E,g,xs,rfl⟩,Y,rfl⟩,?_⟩;grind[World.cell?]
theorem awx{k:Nat}{s:SV}:∀{m:List SV}{i:Nat},m[i]?=some s->k∈aoh s->k∈aww m:=by
 intro m;induction m with
 |nil=>grind
 |cons x r o=>grind[aww]
theorem a2x:∀(m:List SV)(i:Nat),(frzL st m)[i]?=(m[i]?).map (frzS st):=by
 intro m;induction m with
 |nil=>intro i;simp[frzL]
 |cons x r o=>grind[frzL]
theorem ap7:∀(m:List SV),(frzL st m).length=m.length:=by
 intro m;induction m with
 |nil=>rfl
 |cons x r o=>simp[frzL,o]
theorem aji{fz:List Nat}(Z:WRel Γ D ow μ st w){s:SV}{v:Value}(h:SRep Γ.P D w ow μ st s v):(∀k,k∈aoh s->k∈fz)->SRep Γ.P (ad0 D ow μ st fz) w ow μ st (frzS st s) v:=by
 have m:Moves D w ow μ st (ad0 D ow μ st fz) w ow μ st:=ai7 fz;have H:∀(k g:Nat)(E:TypeId)(v:Value),SRep Γ.P D w ow μ st (.arr k g E) v->k∈fz->SRep Γ.P (ad0 D ow μ st fz) w ow μ st (frzS st (.arr k g E)) v:=by
  intro k g E v h I;simp only[frzS];split
  ·grind[a9n]
  ·exact .undef
 induction h with
 |agg V X Y hv hs ih=>intro I;simp only[frzS];refine .agg V X Y (by grind[ap7]) (λi x f O W=>?_);rw[a2x]at O;obtain⟨y,hy,rfl⟩:=Option.map_eq_some_iff.1 O;grind[aoh,awx]
 |arrOld o t z=>intro I;exact H _ _ _ _ (.arrOld o t z) (I _ (by simp[aoh]))
 |arrNil o=>intro I;exact H _ _ _ _ (.arrNil o) (I _ (by simp[aoh]))
 |arr o t z G J M=>intro I;exact H _ _ _ _ (.arr o t z G J M) (I _ (by simp[aoh]))
 |undef=>intro _;exact .undef
 |bool=>intro _;exact .bool
 |int=>intro _;exact .int
 |str=>intro _;exact .str
 |slice h=>intro _;exact(SRep.slice h).mono m
 |data o t=>intro _;exact(SRep.data o t).mono m
 |map h=>intro _;exact(SRep.map h).mono m
 |nils=>intro _;exact .nils
 |acc o t z G=>intro _;exact(SRep.acc o t z G).mono m
 |ref o t=>intro _;exact .ref o t
 |@mref k K E es o=>intro I;simp only[frzS,o];obtain⟨ents,clock,kc,vc,r1,r2,r3,r4,r5,r6,r7,_⟩:=Z.map k K E es o;exact .map (.mk kc vc r1 (Or.inr ⟨k,_,I k (by simp[aoh]),o,Or.inl ⟨K,E,es,rfl⟩,r2,rfl⟩) r4 (λi x a=>(r5 i x a).mono m.dom m.keeps) (λi x a=>(r6 i x a).mono m.dom m.keeps) r7)
 |iref o=>intro _;exact .iref o
 |mitr o=>intro _;exact .mitr o
 |bref o=>intro _;exact .bref o
 |nx o t=>intro _;exact .nx o t
 |eif o t=>intro _;exact .eif o t
 |pto o t=>intro _;exact(SRep.pto o t).mono m
 |fn o t z _=>intro _;exact(SRep.fn o t z).mono m
 |tup o t _=>intro _;exact(SRep.tup o t).mono m
 |raw=>intro _;exact .raw
 |lit h=>intro _;exact(SRep.lit h).mono m
 |sln h=>intro _;exact(SRep.sln h).mono m
 |arefOld o t z=>intro _;exact .arefOld o t z
 |aref o t z G J=>intro _;exact .aref o t z G J
 |eref o t z=>intro _;exact .eref o t z
 |asl o t z G=>intro _;exact .asl o t z G
 |avwOld o t=>intro _;exact .avwOld o t
 |avw o t z G J M U=>intro _;exact .avw o t z G J M U
 |lits o t z G _=>intro _;exact(SRep.lits o t z G).mono m
 |ifc h _=>intro _;exact(SRep.ifc h).mono m
def aqy(ow:Own)(k:Nat):Own:=λb=>if ow b=some k then none else ow b
theorem owLess_some{k b j:Nat}:aqy ow k b=some j ↔ ow b=some j/\j≠k:=by unfold aqy;grind
theorem WRel.freezeRow(H:WRel Γ D ow μ st w){k g:Nat}{E:TypeId}{xs:List PV}(M:st[k]?=some (.arr E g xs)):
 WRel Γ (ad0 D ow μ st [k]) (aqy ow k) μ (st.set k (.arr E (g+1) [])) w/\Moves D w ow μ st (ad0 D ow μ st [k]) w (aqy ow k) μ (st.set k (.arr E (g+1) [])):=by
 have G:=(A6.1 M).1
 have m:(st.set k (.arr E (g+1) []))[k]?=some (.arr E (g+1) []):=by rw[List.getElem?_set_self G]
 refine H.turn k (.arr E (g+1) []) (λy e=>by rw[m]at e;cases e;rfl) (λj J=>Ay (by omega)) (by simp) (λy e=>?_) (λ_ _=>rfl) (λ_ _ d=>Or.inl d) (Keeps.refl _ _) (λ_ _ _=>rfl) (λb j J t=>⟨owLess_some.2 ⟨t,J⟩,λo d=>?_⟩) (λb j _ t=>(owLess_some.1 t).1) (λb t=>absurd rfl (owLess_some.1 t).2) (λb o d=>?_) (Nat.le_refl _) rfl rfl rfl λ_ _=>Or.inl rfl
 ·rw[M]at e;cases e;exact⟨m,_,_,rfl,by omega,λh=>by omega⟩
 ·rcases aec d with d|⟨I,O,z,_⟩;all_goals grind
 ·rcases aec d with d|⟨I,O,z,_⟩
  ·exact Or.inl d
  ·refine Or.inr ⟨(H.owlt b I z).1,?_⟩;by_cases U:b<Γ.B
   ·exact Or.inr (by rw[H.owN b I z U];simp)
   ·exact Or.inl (by omega)
end
end Go.Ab
