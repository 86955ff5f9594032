/- Reading slots; zero values; plain data out of slots; parts of a box. -/
import Derived.Test.YtofplaamkkpciaaGreatDoorAbRel
import Derived.Laws.StructEq
set_option linter.unusedVariables false
set_option linter.unusedSimpArgs false
set_option linter.unnecessarySimpa false
namespace Go.Ab
open Go
section
variable{Γ:Ctx}{D:Dom}{ow:Own}{μ:Nat->Nat}{e:Env}{st:List BX}{a:Act}{w:World}
theorem a0b(h:Slots Γ D ow μ e st a w):∀(f o:Nat)(z:Bool)(t:Nat)(v:Bool),ah2 e f o z t v=true->a.tmps.getD o Go.undef=.bool z->a.tmps.getD t Go.undef=.bool v:=by
 intro f;induction f with
 |zero=>grind[ah2]
 |succ f V=>
  intro o z t v m U;unfold ah2 at m;cases G:(Nat.beq o t&&(bif z then v else !v))with
  |true=>simp only[Ai]at G;grind[Nat.eq_of_beq_eq_true]
  |false=>
   rw[G]at m;simp only[Af]at m;have J:=h.slot o;cases I:e o with
   |gd M O x=>
    rw[I]at m J;refine V M O t v m ?_;by_cases H:a.tmps.getD M Go.undef=.bool O
    ·exact H
    ·have:=J.2 H;rw[U]at this;cases this
   |_=>rw[I]at m;simp at m
theorem ar6(h:Slots Γ D ow μ e st a w)(m:List (Nat×Bool))(o:∀x,x∈m->a.tmps.getD x.1 Go.undef=.bool x.2)(t:Nat)(v:Bool)(z:ai9 e m t v=true):a.tmps.getD t Go.undef=.bool v:=by
 induction m with
 |nil=>grind[ai9]
 |cons x r G=>grind[ai9,ah2,a0b]
theorem bfe(h:Slots Γ D ow μ e st a w)(m:List (Nat×Bool))(J:∀x,x∈m->a.tmps.getD x.1 Go.undef=.bool x.2)(t:Nat):SRep Γ.P D w ow μ st (rd e m (e t)) (a.tmps.getD t Go.undef):=by
 have o:=h.slot t;cases z:e t with
 |gd G H x=>
  rw[z]at o;simp only[rd];cases I:ai9 e m G H with
  |true=>exact o.1 (ar6 h m J G H I)
  |false=>exact .undef
 |_=>rw[z]at o;exact o
theorem auj(v:Value):SRep Γ.P D w ow μ st (azt v) v:=by unfold azt;split;all_goals constructor<;>simp_all
theorem aby(h:Slots Γ D ow μ e st a w)(m:List (Nat×Bool))(o:∀x,x∈m->a.tmps.getD x.1 Go.undef=.bool x.2)(x:Operand):SRep Γ.P D w ow μ st (opd e m x) (a.eval x):=by
 cases x with
 |tmp t=>exact bfe h m o t
 |const v=>exact auj v
 |global g=>exact .undef
 |func f=>constructor<;>simp_all
theorem agk(h:Slots Γ D ow μ e st a w):∀(f t:Nat)(v c:Bool),gval e f t v=some c->(a.tmps.getD t Go.undef=.bool v ↔ c=true):=by
 intro f;induction f with
 |zero=>grind[gval]
 |succ f V=>
  intro t v c m;unfold gval at m;have o:=h.slot t;cases z:e t with
  |bool b=>
   rw[z]at m o;simp only[Aj]at m;have H:a.tmps.getD t Go.undef=.bool b:=by generalize a.tmps.getD t Go.undef=u at o;cases o;rfl
   grind[bq]
  |gd I J x=>
   cases x with
   |bool b=>
    rw[z]at m o;simp only at m;cases U:gval e f I J with
    |none=>grind
    |some M=>
     rw[U]at m;simp only[Aj]at m;have W:=V I J M U;by_cases O:a.tmps.getD I Go.undef=.bool J
     ·have H:a.tmps.getD t Go.undef=.bool b:=by have:=o.1 O;generalize a.tmps.getD t Go.undef=u at this;cases this;rfl
      grind[bq]
     ·have H:=o.2 O;have G:M=false:=by grind
      rw[H,<-m,G];constructor
      ·intro m;cases m
      grind
   |_=>rw[z]at m;simp at m
  |_=>rw[z]at m;simp at m
end
theorem ash(P:Program):∀(l:List Field)(n m:Nat),acl P l n=some m->
 n<=m/\∀(i:Nat)(f:Field),l[i]?=some f->n<=f.offset/\f.offset+P.cellsOf f.type<=m/\0<P.cellsOf f.type/\(aah P f.type=true\/P.cellsOf f.type=1)/\
  ∀(j:Nat)(g:Field),l[j]?=some g->i<j->f.offset+P.cellsOf f.type<=g.offset:=by
 intro l
 induction l with
 |nil=>grind[acl]
 |cons x r V=>
  intro n m h
  unfold acl at h
  cases z:(Nat.beq x.offset n&&!(Nat.beq (P.cellsOf x.type) 0)&&(aah P x.type||Nat.beq (P.cellsOf x.type) 1))with
  |false=>grind
  |true=>
   rw[z]at h
   simp only[Ad]at h
   simp only[Ai,Bool.not_eq_true',A7]at z
   obtain⟨⟨I,h2⟩,J⟩:=z
   have Z:x.offset=n:=Ag I
   have t:0<P.cellsOf x.type:=by rcases Nat.eq_zero_or_pos (P.cellsOf x.type)with H|H;all_goals simp_all
   obtain⟨O,U⟩:=V _ _ h
   refine⟨by omega,λi f o=>?_⟩
   cases i with
   |zero=>
    simp at o;subst o
    refine⟨by omega,by omega,t,J.imp id Ag,λj g M G=>?_⟩
    cases j with
    |zero=>omega
    |succ j=>grind
   |succ i=>
    simp at o
    obtain⟨q1,W,X,Y,q5⟩:=U i f o
    refine⟨by omega,W,X,Y,λj g M G=>?_⟩
    cases j with
    |zero=>omega
    |succ j=>grind
theorem aqg(P:Program):∀(l:List Field)(n m:Nat),acl P l n=some m->∀j,n<=j->j<m->∃(i:Nat)(f:Field),l[i]?=some f/\f.offset<=j/\j<f.offset+P.cellsOf f.type:=by
 intro l;induction l with
 |nil=>grind[acl]
 |cons x r z=>
  intro n m h j I t;unfold acl at h;cases o:(Nat.beq x.offset n&&!(Nat.beq (P.cellsOf x.type) 0)&&(aah P x.type||Nat.beq (P.cellsOf x.type) 1))with
  |false=>grind
  |true=>
   rw[o]at h;simp only[Ad]at h;simp only[Ai]at o;have H:x.offset=n:=Ag o.1.1;by_cases J:j<n+P.cellsOf x.type
   ·exact⟨0,x,rfl,by omega,by omega⟩
   ·obtain⟨i,f,M,G⟩:=z _ _ h j (by omega) t;exact⟨i+1,f,by simp[*],G⟩
structure Laid(P:Program)(T:TypeId)(fs:Array Field):Prop where
 inside:∀(i:Nat)(f:Field),fs[i]?=some f->f.offset+P.cellsOf f.type<=P.cellsOf T
 pos:∀(i:Nat)(f:Field),fs[i]?=some f->0<P.cellsOf f.type
 one:∀(i:Nat)(f:Field),fs[i]?=some f->aah P f.type=true\/P.cellsOf f.type=1
 apart:∀(i j:Nat)(f g:Field),fs[i]?=some f->fs[j]?=some g->i<j->f.offset+P.cellsOf f.type<=g.offset
 cover:∀j,j<P.cellsOf T->∃(i:Nat)(f:Field),fs[i]?=some f/\f.offset<=j/\j<f.offset+P.cellsOf f.type
theorem act{P:Program}{T:TypeId}{m:Array Field}(h:acs P T=true)(H:aggF P T=some m):Laid P T m:=by
 unfold acs at h;rw[H]at h;simp only at h;cases z:acl P m.toList 0 with
 |none=>grind
 |some n=>
  rw[z]at h;have J:n=P.cellsOf T:=Ag h;obtain⟨_,G⟩:=ash P _ _ _ z;have U:∀(i:Nat),m.toList[i]?=m[i]?:=λi=>by simp
  exact⟨λi f o=>by grind,λi f o=>(G i f (by grind)).2.2.1,λi f o=>(G i f (by grind)).2.2.2.1,
   λi j f g o I t=>(G i f (by grind)).2.2.2.2 j g (by grind) t,
   λj I=>by obtain⟨i,f,M,O⟩:=aqg P _ _ _ z j (Nat.zero_le _) (by omega);grind⟩
theorem Laid.oneCell{P:Program}{T:TypeId}{m:Array Field}(h:Laid P T m){cs:List Value}(H:cs.length=P.cellsOf T)
 (t:∀(i:Nat)(f:Field),m[i]?=some f->∀c,c∈(cs.drop f.offset).take (P.cellsOf f.type)->c.oneCell'=true):∀c,c∈cs->c.oneCell'=true:=by
 intro c o
 obtain⟨j,G,rfl⟩:=List.mem_iff_getElem.1 o
 obtain⟨i,f,z,I,J⟩:=h.cover j (by omega)
 refine t i f z _ (List.mem_iff_getElem?.2 ⟨j-f.offset,?_⟩)
 grind
theorem Laid.len{P:Program}{T:TypeId}{m:Array Field}(h:Laid P T m){cs:List Value}(t:cs.length=P.cellsOf T){i:Nat}{f:Field}(o:m[i]?=some f):
 ((cs.drop f.offset).take (P.cellsOf f.type)).length=P.cellsOf f.type:=by
 have:=h.inside i f o
 simp;omega
theorem ang{P:Program}{T:TypeId}{cs:List Value}(h:aah P T=true\/cs.length=1)(m:∀c,c∈cs->c.oneCell'=true):(pack P T cs).cells.toList=cs:=by
 unfold pack;cases o:aah P T with
 |true=>rfl
 |false=>
  rcases h with h|h
  ·grind
  ·match cs,h with
   |[c],_=>have:=m c (by simp);cases c<;>simp_all[Value.oneCell',Value.cells]
theorem aet{v:Value}(h:v.oneCell'=true):v.cells=#[v]:=by cases v<;>simp_all[Value.oneCell',Value.cells]
section
variable{P:Program}{D:Dom}{ow:Own}{μ:Nat->Nat}{st:List BX}{w:World}
theorem a5v:∀(m:List Field)(ss:List SV),a5u P m ss=true->m.length=ss.length/\∀(i:Nat)(f:Field)(s:SV),m[i]?=some f->ss[i]?=some s->isOf P f.type s=true:=by
 intro m;induction m with
 |nil=>grind[a5u]
 |cons d r o=>intro ss h;cases ss with
  |nil=>simp[a5u]at h
  |cons x q=>
   simp only[a5u,Ai]at h
   grind
theorem bcq:∀(ss:List SV)(i:Nat),(ay3 ss)[i]?=(ss[i]?).map toPV:=by
 intro ss;induction ss with
 |nil=>grind[ay3]
 |cons x r m=>grind[ay3]
theorem ay4(ss:List SV):(ay3 ss).length=ss.length:=by
 induction ss with
 |nil=>simp[ay3]
 |cons x r m=>simp[ay3,m]
theorem aa9{s:SV}{v:Value}(h:SRep P D w ow μ st s v):∀T,isOf P T s=true->Rep P D w T (toPV s) v.cells.toList:=by
 induction h with
 |eif=>grind[isOf]
 |ifc=>grind[isOf]
 |lit o=>
  intro T h;unfold isOf at h;split at h
  ·rename_i m;have:=Ag h;subst this;exact o.rep m
  ·cases h
 |arrOld=>grind[isOf]
 |arrNil=>grind[isOf]
 |arr=>grind[isOf]
 |arefOld=>grind[isOf]
 |aref=>grind[isOf]
 |eref=>grind[isOf]
 |asl=>grind[isOf]
 |avwOld=>grind[isOf]
 |avw=>grind[isOf]
 |lits=>grind[isOf]
 |undef=>grind[isOf]
 |bool=>intro T h;unfold isOf at h;split at h;all_goals constructor<;>simp_all
 |int=>intro T h;unfold isOf at h;split at h;all_goals constructor<;>simp_all
 |str=>intro T h;unfold isOf at h;split at h;all_goals constructor<;>simp_all
 |slice o=>
  intro T h;unfold isOf at h;split at h
  ·rename_i m;have:=Ag h;subst this;have:=o.rep m;cases o<;>exact this
  ·cases h
 |data ha hr=>grind[isOf,Nat.eq_of_beq_eq_true,Value.cells,toPV]
 |@agg T' fs vs cs m J M hv hp Y=>
  intro T h;simp only[isOf,Ai]at h;obtain⟨⟨z,V⟩,G⟩:=h;have:=Ag z;subst this;rw[m]at G;simp only at G;obtain⟨q1,Z⟩:=a5v _ _ G;have I:=act V m;simp only[toPV,Value.cells];refine .ofAggF m J M (by grind[ay4]) (λi v f t H=>?_);rw[bcq]at t;cases o:vs[i]? with
  |none=>grind
  |some s=>rw[o]at t;simp at t;subst t;have:=Y i s f o H f.type (Z i f s (by simp[*]) o);rwa[ang ((I.one i f H).imp id (λz=>by rw[I.len J H];exact z)) (λc W=>M c (List.mem_of_mem_drop (List.mem_of_mem_take W)))]at this
 |map X=>
  intro T h;unfold isOf at h;split at h
  ·rename_i m;simp only[Ai]at h;have O:=Ag h.1;have U:=Ag h.2;subst O;subst U;cases X with
   |nil=>exact .mapnil m
   |mk kc vc a b c d e f=>exact .map kc vc m a b c d e f
  ·cases h
 |nils=>
  intro T h;unfold isOf at h;split at h
  ·rename_i m;exact .nil m λ_=>rfl
  ·cases h
 |acc o=>
  intro T h;unfold isOf at h;split at h
  ·rename_i m;have:=Ag h;subst this;have:=o.rep m;cases o<;>exact this
  ·cases h
 |ref=>grind[isOf]
 |mref=>grind[isOf]
 |iref=>grind[isOf]
 |mitr=>grind[isOf]
 |sln=>grind[isOf]
 |bref=>grind[isOf]
 |nx=>grind[isOf]
 |pto=>grind[isOf]
 |fn=>grind[isOf]
 |tup=>grind[isOf]
 |raw=>intro T h;simp only[isOf,Ai]at h;rw[aet h.2];exact .raw h.1 h.2
theorem a7j:∀(n:Nat)(T:TypeId)(cs:List Value),zeroCells? P n T cs=true->SRep P D w ow μ st (aa8 P n T) (pack P T cs)/\(∀c,c∈cs->c.oneCell'=true):=by
 intro n;induction n with
 |zero=>simp_all[zeroCells?]
 |succ n V=>
  intro T cs h;cases o:P.underlying T with
  |none=>simp_all[zeroCells?]
  |some d=>
   cases d with
   |struct W=>
    simp only[zeroCells?,o,Ai]at h;obtain⟨⟨Y,m⟩,aa⟩:=h;have Y:=act Y (abj o);have m:cs.length=P.cellsOf T:=Ag m;have hf:∀(i:Nat)(f:Field),W[i]?=some f->zeroCells? P n f.type ((cs.drop f.offset).take (P.cellsOf f.type))=true:=by grind
    have U:aah P T=true:=by simp[aah,o]
    have H:=Y.oneCell m (λi f t=>(V _ _ (hf i f t)).2);refine⟨?_,H⟩;simp only[aa8,o,pack,U,A8];refine .agg (abj o) m H (by simp) (λi v f I t=>?_);grind
   |array k E=>
    simp only[zeroCells?,o,Ai,A7]at h;obtain⟨⟨⟨⟨J,X⟩,z⟩,h4⟩,h5⟩:=h;have J:=Ag J;have X:=Ag X;have t:∀i,i<k->zeroCells? P n E ((cs.drop (i*P.cellsOf E)).take (P.cellsOf E))=true:=λi t=>Bd.1 h5 i (List.mem_range.2 t);have ab:∀i,i<k->i*P.cellsOf E+P.cellsOf E<=cs.length:=λi t=>by rw[J,X];have:(i+1)*P.cellsOf E<=k*P.cellsOf E:=Au _ (by omega);grind
    have H:∀c,c∈cs->c.oneCell'=true:=by
     intro c hc;obtain⟨j,hj,rfl⟩:=List.mem_iff_getElem.1 hc;have O:0<P.cellsOf E:=by grind
     have hd:j / P.cellsOf E<k:=by rw[Nat.div_lt_iff_lt_mul O];omega
     refine(V E _ (t _ hd)).2 _ (List.mem_iff_getElem?.2 ⟨j%P.cellsOf E,?_⟩);grind[List.getElem?_take_of_lt,Nat.mod_lt,Nat.div_add_mod,Nat.mul_comm,List.getElem?_eq_getElem]
    have U:aah P T=true:=by simp[aah,o]
    refine⟨?_,H⟩;simp only[aa8,o,pack,U,A8];split
    ·rename_i W Z;obtain⟨q1,q2⟩:=ak8 Z;refine .agg (show aggF P T=some W by grind[aggF]) J H (by simp) (λi v f I hf=>?_);grind
    refine .data U (.arr o J H (by simp) (λi v I=>?_));obtain⟨G,I⟩:=A6.1 I;simp at G;simp at I;subst I;have hz:=(V E _ (t i G)).1;have hr:=aa9 hz E h4;have hl:((cs.drop (i*P.cellsOf E)).take (P.cellsOf E)).length=P.cellsOf E:=by grind
    have M:=(V E _ (t i G)).2;generalize(cs.drop (i*P.cellsOf E)).take (P.cellsOf E)=zs at*;have hp:(pack P E zs).cells.toList=zs:=by
     cases hE:aah P E with
     |true=>simp[pack,hE,Value.cells]
     |false=>
      rw[hE]at z;rcases z with z|z
      ·cases z
      ·have z:=Ag z;rw[z]at hl;match zs,hl,M with
       |[u],_,M=>simp_all[pack,A3,A9,List.headD,aet]
    simp_all
   |_=>
    simp only[zeroCells?,o]at h;try split at h
    all_goals first
     |(rename_i hq;cases hq;done)
     |(simp at h;done)
     |skip
    all_goals(try(rename_i hq;cases hq))
    all_goals simp only[aa8,o,pack,aah]
    all_goals first
     |(simp at h;subst h;exact⟨.bool,by simp[Value.oneCell']⟩)
     |(simp at h;obtain⟨rfl,rfl⟩:=h;exact⟨.int,by simp[Value.oneCell']⟩)
     |(exact⟨.nils,by simp[Value.oneCell']⟩)
     |(exact⟨.map .nil,by simp[Value.oneCell']⟩)
     |(exact⟨.raw,by simp[Value.oneCell']⟩)
     |(
      rename_i s
      have hs:s=⟨#[]⟩:=by
       cases s with
       |mk d=>grind
      subst hs
      exact⟨.str,by simp[Value.oneCell']⟩)
     |(trace_state;fail)
theorem Rep.aggLen{T:TypeId}{v:PV}{cs:List Value}(h:Rep P D w T v cs)(t:aah P T=true):cs.length=P.cellsOf T:=by
 cases h with
 |agg _ o=>exact o
 |arr _ o=>exact o
 |raw z=>grind[rawT,aah]
 |bool m=>grind[aah]
 |int m=>grind[aah]
 |str m=>grind[aah]
 |nil m=>grind[aah]
 |slice m=>grind[aah]
 |mapnil m=>grind[aah]
 |map _ _ m=>grind[aah]
theorem ae1{s:SV}{v:Value}{T:TypeId}(h:SRep P D w ow μ st s v)(m:afl P T s=true):
 v.cells.toList.length=P.cellsOf T/\(∀c,c∈v.cells.toList->c.oneCell'=true)/\pack P T v.cells.toList=v:=by
 have o:∀{u:Value},u.oneCell'=true->(!aah P T&&Nat.beq (P.cellsOf T) 1)=true->u.cells.toList.length=P.cellsOf T/\(∀c,c∈u.cells.toList->c.oneCell'=true)/\pack P T u.cells.toList=u:=by simp_all[Ai,Bool.not_eq_true',Ag,aet,pack]
 cases h with
 |undef=>simp[afl]at m
 |nx=>simp[afl]at m
 |tup=>simp[afl]at m
 |avwOld=>simp[afl]at m
 |avw=>simp[afl]at m
 |lits=>simp[afl]at m
 |data H I=>
  simp only[afl,Ai]at m
  have:=Ag m.1;subst this
  exact⟨by simpa[Value.cells]using I.aggLen H,by simpa[Value.cells]using I.oneCell,by simp[Value.cells,pack,H]⟩
 |agg O U G W V=>
  simp only[afl,Ai]at m
  grind[Nat.eq_of_beq_eq_true,Value.cells,pack]
 |raw=>simp only[afl,Ai]at m;grind
 |slice z=>cases z<;>exact o rfl m
 |map z=>cases z<;>exact o rfl m
 |acc z=>cases z<;>exact o rfl m
 |@eif b v J M=>
  cases b with
  |true=>rw[J rfl];exact o rfl m
  |false=>obtain⟨t,u,rfl⟩:=M rfl;exact o rfl m
 |arrOld _ _ G=>exact o G m
 |arefOld _ _ G=>exact o G m
 |_=>exact o rfl m
theorem a00(T:TypeId)(v:PV):∀(m:List Field)(n i:Nat),(ais P T v m n)[i]?=(m[i]?).map λf=>ofPV P f.type (v.fld (n+i)):=by
 intro m;induction m with
 |nil=>grind[ais]
 |cons d r o=>grind[ais]
theorem asn(T:TypeId)(v:PV):∀(m:List Field)(n:Nat),(ais P T v m n).length=m.length:=by
 intro m;induction m with
 |nil=>grind[ais]
 |cons d r o=>grind[ais]
theorem auw{vs:List PV}{i:Nat}{v:PV}(h:vs[i]?=some v):PV.fld (.agg vs) i=v:=by simp[PV.fld,PV.parts,List.getD,h]
theorem aih{s:SV}{TB:TypeId}{cs:List Value}{J:List SV}{t:Array Field}(Y:SRep P D w ow μ st s (pack P TB cs))(m:ahx P TB s=some J)(G:aggF P TB=some t):
 Laid P TB t/\cs.length=P.cellsOf TB/\J.length=t.size/\(∀c,c∈cs->c.oneCell'=true)/\
  ∀(i:Nat)(x:SV)(f:Field),J[i]?=some x->t[i]?=some f->SRep P D w ow μ st x (pack P f.type ((cs.drop f.offset).take (P.cellsOf f.type))):=by
 have ha:aah P TB=true:=aor G
 unfold ahx at m
 cases hl:acs P TB with
 |false=>grind
 |true=>
  rw[hl]at m
  simp only[Ad]at m
  have hL:=act hl G
  have W:pack P TB cs=.agg cs.toArray:=by simp[pack,ha]
  rw[W]at Y
  generalize hv:Value.agg cs.toArray=v at Y
  cases Y with
  |@agg T aa vs o ab ad ho ae hp=>
   simp only at m
   cases H:Nat.beq TB T with
   |false=>grind
   |true=>
    rw[H]at m
    simp only[Ad,Aj]at m
    grind[Nat.eq_of_beq_eq_true]
  |@data T pv o Z hr=>
   simp only at m
   cases H:Nat.beq TB T with
   |false=>grind
   |true=>
    rw[H,G]at m
    simp only[Ad,Aj]at m
    have:=Ag H;subst this;subst m
    have e:cs=o:=by simpa using hv
    subst e
    obtain⟨vs,rfl,O,V,af,X⟩:=hr.aggF G
    refine⟨hL,O,by rw[asn];simp,V,λi x f I hf=>?_⟩
    rw[a00]at I
    have M:t.toList[i]?=some f:=by simpa using hf
    rw[M]at I
    simp at I
    subst I
    have U:i<vs.length:=by grind
    have z:vs[i]?=some vs[i]:=Ap U
    rw[auw z]
    exact(X i vs[i] f z hf).ofPV
  |_=>simp at m
theorem ali:∀(path:List Nat)(TB:TypeId)(s:SV)(cs:List Value)(off:Nat)(T:TypeId)(x:SV),SRep P D w ow μ st s (pack P TB cs)->cs.length=P.cellsOf TB->acf P TB path=some (off,T)->aim P TB s path=some x->
 SRep P D w ow μ st x (pack P T ((cs.drop off).take (P.cellsOf T)))/\off+P.cellsOf T<=cs.length:=by
 intro path
 induction path with
 |nil=>grind[acf,aim]
 |cons i p ih=>
  intro TB s cs off T x hs hl z m
  unfold acf at z
  unfold aim at m
  cases J:aggF P TB with
  |none=>grind
  |some W=>
   rw[J]at z m
   simp only at z m
   cases G:W[i]? with
   |none=>grind
   |some f=>
    rw[G]at z
    simp only at z
    cases O:acf P f.type p with
    |none=>grind
    |some r=>
     obtain⟨o,t⟩:=r
     rw[O]at z
     simp at z
     obtain⟨rfl,rfl⟩:=z
     cases M:ahx P TB s with
     |none=>grind
     |some X=>
      rw[M]at m
      simp only at m
      cases U:X[i]? with
      |none=>grind
      |some y=>
       rw[U,G]at m
       simp only at m
       obtain⟨H,I,h2,h3,Y⟩:=aih hs M J
       obtain⟨V,q2⟩:=ih f.type y _ o t x (Y i y f U G) (H.len I G) O m
       rw[H.len I G]at q2
       have Z:=H.inside i f G
       refine⟨?_,by omega⟩
       rw[List.drop_take,List.take_take,Bk,Nat.min_eq_left (by omega)]at V
       exact V
def abe(cs:List Value)(off:Nat)(xs:List Value):List Value:=cs.take off++xs++cs.drop (off+xs.length)
theorem abz{cs xs:List Value}{off:Nat}(h:off+xs.length<=cs.length):(abe cs off xs).length=cs.length:=by simp[abe];omega
theorem art{cs xs:List Value}{off:Nat}(h:off+xs.length<=cs.length):((abe cs off xs).drop off).take xs.length=xs:=by grind[abe]
theorem ajv{cs xs:List Value}{off:Nat}(h:off+xs.length<=cs.length)(j:Nat):(abe cs off xs)[j]?=if off<=j/\j<off+xs.length then xs[j-off]? else cs[j]?:=by
 unfold abe;have m:(cs.take off).length=off:=by simp;omega
 grind
theorem adz{cs xs:List Value}{off:Nat}(h:off+xs.length<=cs.length){o n:Nat}(t:o+n<=off\/off+xs.length<=o):((abe cs off xs).drop o).take n=(cs.drop o).take n:=by
 apply List.ext_getElem?;intro j;by_cases m:j<n
 ·rw[List.getElem?_take_of_lt m,List.getElem?_take_of_lt m,List.getElem?_drop,List.getElem?_drop,ajv h,if_neg (by omega)]
 grind
theorem amk{cs xs:List Value}{off o n:Nat}(m:o+n<=cs.length)(h:off+xs.length<=n):((abe cs (o+off) xs).drop o).take n=abe ((cs.drop o).take n) off xs:=by
 have t:((cs.drop o).take n).length=n:=by simp;omega
 apply List.ext_getElem?;grind[ajv,List.getElem?_take_of_lt]
theorem amj:∀(path:List Nat)(TB:TypeId)(s:SV)(cs:List Value)(off:Nat)(T:TypeId)(x:SV)(xs:List Value)(V:SV),SRep P D w ow μ st s (pack P TB cs)->cs.length=P.cellsOf TB->acf P TB path=some (off,T)->
 SRep P D w ow μ st x (pack P T xs)->xs.length=P.cellsOf T->(∀c,c∈xs->c.oneCell'=true)->ai0 P TB s path x=some V->
 SRep P D w ow μ st V (pack P TB (abe cs off xs))/\off+xs.length<=cs.length:=by
 intro path
 induction path with
 |nil=>
  intro TB s cs off T x xs V hs hl G hx M O m
  simp[acf]at G
  simp[ai0]at m
  obtain⟨rfl,rfl⟩:=G
  grind[abe]
 |cons i p ih=>
  intro TB s cs off T x xs V hs hl G hx M O m
  unfold acf at G
  unfold ai0 at m
  cases U:aggF P TB with
  |none=>grind
  |some ds=>
   rw[U]at G m
   simp only at G m
   cases H:ds[i]? with
   |none=>grind
   |some f=>
    rw[H]at G
    simp only at G
    cases hq:acf P f.type p with
    |none=>grind
    |some r=>
     obtain⟨o,t⟩:=r
     rw[hq]at G
     simp at G
     obtain⟨rfl,rfl⟩:=G
     cases he:ahx P TB s with
     |none=>grind
     |some fs=>
      rw[he]at m
      simp only at m
      cases hy:fs[i]? with
      |none=>grind
      |some y=>
       rw[hy,H]at m
       simp only at m
       cases hz:ai0 P f.type y p x with
       |none=>grind
       |some z=>
        rw[hz]at m
        simp only[Aj]at m
        subst m
        obtain⟨I,h1,h2,h3,h4⟩:=aih hs he U
        obtain⟨q1,q2⟩:=ih f.type y _ o t x xs z (h4 i y f hy H) (I.len h1 H) hq hx M O hz
        rw[I.len h1 H]at q2
        have aa:=I.inside i f H
        have J:f.offset+o+xs.length<=cs.length:=by omega
        have ha:aah P TB=true:=aor U
        refine⟨?_,J⟩
        have Z:pack P TB (abe cs (f.offset+o) xs)=.agg (abe cs (f.offset+o) xs).toArray:=by simp[pack,ha]
        rw[Z]
        refine .agg U (by grind[abz]) ?_ (by simp[*]) (λj v g hj m=>?_)
        ·intro c hc;unfold abe at hc;simp only[Bm]at hc;grind
        ·by_cases X:j=i
         ·grind[List.getElem?_eq_some_iff,List.getElem?_set_self,amk]
         ·rw[Ay (by omega)]at hj;rw[adz J]
          ·grind
          ·rcases Nat.lt_or_gt_of_ne X with Y|W
           ·have:=I.apart j i g f m H Y;omega
           ·have:=I.apart i j f g H m W;omega
end
end Go.Ab
namespace Go.Ab
open Go
theorem aay{P:Program}{T:TypeId}(h:P.cellsOf T≠0):∃i,P.info? T=some i/\i.size=P.cellsOf T:=by
 cases m:P.info? T with
 |none=>grind[Program.cellsOf]
 |some i=>exact⟨i,rfl,by simp[Program.cellsOf,m]⟩
theorem alk{P:Program}{T:TypeId}{d:TypeDesc}(h:P.underlying T=some d):∃i,P.info? T=some i/\i.size=P.cellsOf T:=by
 cases m:P.info? T with
 |none=>grind[Program.underlying]
 |some i=>exact⟨i,rfl,by simp[Program.cellsOf,m]⟩
theorem aax{P:Program}{T:TypeId}{i:TypeInfo}(h:P.info? T=some i)(m:i.size=P.cellsOf T)(w:World):(sizeOf T).run P w=.ok (P.cellsOf T) w:=by simp[sizeOf,typeInfo,h,m]
theorem ani{P:Program}{T:TypeId}(h:(P.underlying T).isSome=true)(w:World):(isAgg T).run P w=.ok (aah P T) w:=by obtain⟨d,m⟩:=Option.isSome_iff_exists.1 h;cases d<;>simp[isAgg,run_underlying m,aah,m]
theorem av4{P:Program}{T:TypeId}(t:(P.underlying T).isSome=true)(cs:List Value)(off:Nat)(h:off+P.cellsOf T<=cs.length)(o:aah P T=true\/P.cellsOf T=1)(w:World):
 (part T cs.toArray off).run P w=.ok (pack P T ((cs.drop off).take (P.cellsOf T))) w:=by
 unfold part
 simp only[Sem.run_bind,ani t,Result.andThen_ok]
 cases z:aah P T with
 |true=>
  obtain⟨d,G⟩:=Option.isSome_iff_exists.1 t
  obtain⟨i,H,I⟩:=alk G
  simp only[A8,Sem.run_bind,aax H I,Result.andThen_ok,pack,z]
  simp_all
 |false=>
  have o:P.cellsOf T=1:=by grind
  rw[o]at h ⊢
  have m:off<cs.length:=by omega
  have e:(cs.drop off).take 1=[cs[off]]:=by grind[List.drop_eq_getElem_cons]
  simp[m,pack,z,e]
section
variable{P:Program}{D:Dom}{ow:Own}{μ:Nat->Nat}{st:List BX}{w:World}
theorem am3{T:TypeId}{s:SV}{z:List SV}{v:Value}(h:SRep P D w ow μ st s v)(m:ahx P T s=some z):SRep P D w ow μ st (.agg T z) v:=by
 have J:=m;unfold ahx at m;cases W:acs P T with
 |false=>grind
 |true=>
  rw[W]at m;simp only[Ad]at m;split at m
  ·rename_i o I;cases t:Nat.beq T o with
   |false=>grind
   |true=>simp_all
  ·rename_i o Z;cases t:Nat.beq T o with
   |false=>grind
   |true=>
    rw[t]at m;simp only[Ad]at m;have:=Ag t;subst this;split at m
    ·rename_i ds G;cases h with
     |@data _ _ cs H Y=>
      have X:SRep P D w ow μ st (.data T Z) (pack P T cs):=by simp only[pack,H,A8];exact .data H Y
      obtain⟨h1,M,O,U,V⟩:=aih X J G;exact .agg G M U O V
    ·cases m
  ·cases m
theorem auu{T:TypeId}{x y:SV}{a b:Value}{r:Bool}(o:SRep P D w ow μ st x a)(t:SRep P D w ow μ st y b)(h:aut P T x y=some r)(d:Nat):(Op.equalIn (d+1) T a b).run P w=.ok r w:=by
 unfold aut at h;split at h
 ·rename_i z;cases o;cases t;grind[Option.some.injEq,run_equalIn_bool]
 ·rename_i J k H G I z;cases o;cases t;cases m:decide (k=G)with
  |false=>grind
  |true=>rw[m]at h;have:=of_decide_eq_true m;subst this;simp only[Ad,Aj]at h;grind[run_equalIn_int]
 ·rename_i z;cases o;cases t;grind[Option.some.injEq,run_equalIn_string,ByteArray.toList_mk]
 ·cases h
theorem asx (d:Nat) {J M:List Value}:∀ (m:List Field) (xs ys:List SV) (r:Bool),ado P m xs ys=some r->(∀ f,f∈m->f.name≠ "_")->
 (∀(i:Nat)(f:Field)(x:SV),m[i]?=some f->xs[i]?=some x->∃a,(part f.type J.toArray f.offset).run P w=.ok a w/\SRep P D w ow μ st x a)->
 (∀(i:Nat)(f:Field)(y:SV),m[i]?=some f->ys[i]?=some y->∃a,(part f.type M.toArray f.offset).run P w=.ok a w/\SRep P D w ow μ st y a)->
 (Op.eqFields (d+1) J.toArray M.toArray m).run P w=.ok r w:=by
 intro m
 induction m with
 |nil=>
  intro xs ys r h _ _ _
  cases xs<;>cases ys<;>simp[ado]at h
  subst h
  simp[Op.eqFields]
 |cons f m X=>
  intro xs ys r h G H I
  cases xs with
  |nil=>simp[ado]at h
  |cons x xs=>
   cases ys with
   |nil=>simp[ado]at h
   |cons y ys=>
    simp only[ado]at h
    split at h
    ·rename_i b c O U;simp only[Aj]at h;subst h;obtain⟨a1,Y,q1⟩:=H 0 f x rfl rfl;obtain⟨a2,Z,q2⟩:=I 0 f y rfl rfl;have V:=auu q1 q2 O d;have hi:=X xs ys c U (λg W=>G g (by simp[W])) (λi g z o t=>H (i+1) g z (by simpa using o) (by simpa using t)) (λi g z o t=>I (i+1) g z (by simpa using o) (by simpa using t));simp only[Op.eqFields,G f (by simp),ne_eq,not_false_eq_true,A8,Sem.run_bind,Y,Z,V,Result.andThen_ok];cases b
     ·simp
     grind
    ·cases h
theorem ayz(T:TypeId)(op:BinOp)(x y:SV)(a b:Value)(v:SV)(ha:SRep P D w ow μ st x a)(U:SRep P D w ow μ st y b)(h:aev P op T x y=.val true v)(ox oy:Operand):
 ∃u,(do eqGuard op T ox oy a b;binOp op T a b:Sem Value).run P w=.ok u w/\SRep P D w ow μ st v u:=by
 unfold aev at h
 split at h
 ·rename_i m xs ys hT X ah;have aa:=am3 ha X;have ab:=am3 U ah;have V:acs P T=true:=by
   unfold ahx at X;grind
  have hL:=act V (abj hT);cases hc:(m.toList.all (λf=>!(f.name== "_"))&&!(P.stoodInHeld T)&&!(P.eqGuardType P.depth T))with
  |false=>grind
  |true=>
   rw[hc]at h;simp only[Ad]at h;simp only[Ai,Bool.not_eq_true']at hc;obtain⟨⟨c1,c2⟩,c3⟩:=hc;cases aa with
   |@agg _ fs _ cs M ad ak am af=>
    rw[abj hT]at M;cases M;cases ab with
    |@agg _ aj _ G O ae al an ag=>
     rw[abj hT]at O;cases O;have I:P.fieldsOf T=m:=by simp[Program.fieldsOf,hT]
     have t:∀(Y:List Value)(zs:List SV),Y.length=P.cellsOf T->(∀(i:Nat)(v:SV)(f:Field),zs[i]?=some v->m[i]?=some f->SRep P D w ow μ st v (pack P f.type ((Y.drop f.offset).take (P.cellsOf f.type))))->
      ∀(i:Nat)(f:Field)(z:SV),m.toList[i]?=some f->(P.underlying f.type).isSome=true->zs[i]?=some z->∃u,(part f.type Y.toArray f.offset).run P w=.ok u w/\SRep P D w ow μ st z u:=by
      intro Y zs hl hz i f z I hs ai
      have J:m[i]?=some f:=by simpa using I
      exact⟨_,av4 hs Y f.offset (by rw[hl];exact hL.inside i f J) (by rcases hL.one i f J with h|h;all_goals grind) w,hz i z f ai J⟩
     have o:∀(m:List Field)(xs ys:List SV)(r:Bool),ado P m xs ys=some r->∀f,f∈m->(P.underlying f.type).isSome=true:=by
      intro m;induction m with
      |nil=>grind
      |cons g r ih=>
       intro xs ys b U f I;cases xs with
       |nil=>grind[ado]
       |cons x xs=>
        cases ys with
        |nil=>grind[ado]
        |cons y ys=>
         simp only[ado]at U;split at U
         ·rename_i b1 b2 H Z;rcases Bi.1 I with rfl|I
          ·unfold aut at H;grind
          grind
         ·cases U
     have key:∀r,ado P m.toList xs ys=some r->(Op.equalIn 10000 T (.agg cs.toArray) (.agg G.toArray)).run P w=.ok r w:=by intro r W;rw[run_equalIn_struct w 9999 T cs.toArray G.toArray (by grind) c2,I];refine asx 9998 m.toList xs ys r W (λf I=>?_) (λi f z H Z=>t cs xs ad af i f z H (o _ _ _ _ W f (List.mem_of_getElem? H)) Z) (λi f z H Z=>t G ys ae ag i f z H (o _ _ _ _ W f (List.mem_of_getElem? H)) Z);grind
     split at h
     ·rename_i r W;simp only[Ac.val.injEq,true_and]at h;subst h;exact⟨.bool r,by grind[Sem.run_bind,run_eqGuard_agg,Result.andThen_ok,run_eql_struct],.bool⟩
     ·rename_i r W;simp only[Ac.val.injEq,true_and]at h;subst h;exact⟨.bool (!r),by grind[Sem.run_bind,run_eqGuard_agg,Result.andThen_ok,run_neq_struct],.bool⟩
     ·cases h
 ·cases h
end
end Go.Ab
