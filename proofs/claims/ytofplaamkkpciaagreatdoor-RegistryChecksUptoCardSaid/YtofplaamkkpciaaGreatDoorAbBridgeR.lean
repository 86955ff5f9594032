/- From the form's readings to plain data. -/
import Derived.Test.YtofplaamkkpciaaGreatDoorGenRs
import Derived.Test.YtofplaamkkpciaaGreatDoorRows
import Derived.ChangeShapes
set_option linter.unusedVariables false
set_option linter.unusedSimpArgs false
set_option linter.unnecessarySimpa false
namespace Go.Ab
open Go Go.Proofs Go.Proofs.YtofplaamkkpciaaGreatDoor
def al7(P:Program)(S:List TypeId)(T:TypeId):Bool:=
 match P.underlying T with
 |some .bool|some (.int _)|some .string=>true
 |some (.slice E)=>S.any (Nat.beq E)&&!(Nat.beq (P.cellsOf E) 0)
 |some (.struct m)=>acs P T&&m.toList.all λf=>S.any (Nat.beq f.type)
 |some (.array n E)=>S.any (Nat.beq E)&&Nat.beq (P.cellsOf T) (n*P.cellsOf E)&&!(Nat.beq (P.cellsOf E) 0)
 |_=>false
def ajt(P:Program)(S:List TypeId):Bool:=S.all (al7 P S)
theorem aob{P:Program}{S:List TypeId}(h:ajt P S=true){T:TypeId}(m:S.any (Nat.beq T)=true):al7 P S T=true:=by obtain⟨x,t,o⟩:=List.any_eq_true.1 m;have:=Ag o;subst this;exact Bd.1 h _ t
mutual
def aag:PV->Nat
 |.str s=>s.length+1
 |.slice xs=>abq xs+1
 |.agg xs=>abq xs+1
 |_=>1
def abq:List PV->Nat
 |[]=>0
 |x::r=>aag x+abq r
end
theorem aez(v:PV):1<=aag v:=by cases v<;>simp[aag]
theorem ag8:∀{xs:List PV}{x:PV},x∈xs->aag x<=abq xs:=by
 intro xs;induction xs with
 |nil=>intro x h;cases h
 |cons y r m=>
  intro x h;simp only[abq];rcases Bi.1 h with rfl|h
  ·omega
  ·have:=m h;omega
theorem ar9(xs:List PV):xs.length<=abq xs:=by
 induction xs with
 |nil=>simp
 |cons y r m=>have:=aez y;simp only[abq,Al];omega
def abd(P:Program):Nat->TypeId->PV->Prop
 |0,_,_=>False
 |n+1,T,v=>
  match P.underlying T with
  |some .bool=>∃b,v=.bool b
  |some (.int k)=>∃m,v=.int m/\(Lit.int k m).wf=true
  |some .string=>∃s,v=.str s
  |some (.slice E)=>∃xs,v=.slice xs/\∀x,x∈xs->abd P n E x
  |some (.struct o)=>∃vs,v=.agg vs/\vs.length=o.size/\∀(i:Nat)(x:PV)(f:Field),vs[i]?=some x->o[i]?=some f->abd P n f.type x
  |some (.array k E)=>∃vs,v=.agg vs/\vs.length=k/\∀x,x∈vs->abd P n E x
  |_=>True
def aga(w:World)(b off n:Nat):List Value:=(List.range n).map λj=>(w.cell? ⟨b,off+j,none⟩).getD Go.undef
theorem ahv(w:World)(b off n:Nat):(aga w b off n).length=n:=by simp[aga]
theorem alc{w:World}{b off n j:Nat}{v:Value}(m:j<n)(h:w.cell? ⟨b,off+j,none⟩=some v):(aga w b off n)[j]?=some v:=by simp[aga,m,h]
theorem ak7(a:Addr)(n:Nat)(h:a.spot=none):a.add n=⟨a.block,a.off+n,none⟩:=by
 unfold Addr.add;split
 ·rename_i m;subst m;cases a;simp at h;subst h;rfl
 ·rfl
theorem cells?_get{w:World}{base:Nat}{a:Addr}{n:Nat}{cs:List Value}(h:w.cells? base a n=some cs):cs.length=n/\∀i,i<n->∃v,cs[i]?=some v/\w.cell? (a.add i)=some v:=by
 unfold World.cells? at h;split at h
 ·refine⟨by simpa using Lib.mapM_length h,λi m=>?_⟩;exact Lib.mapM_at h i i (by simp[m])
 ·cases h
section
variable{H:Type}{enc:TypeId×Value->H}{P:Program}{w:World}{S:List TypeId}
theorem ana{α:Type}{f:α->Option (DataW H×List MemPlace)}{l:List α}{xs:List (DataW H×List MemPlace)}(h:l.mapM f=some xs){g:PV->Nat->Prop}
 (t:∀(i:Nat)(a:α)(d:DataW H×List MemPlace),l[i]?=some a->xs[i]?=some d->f a=some d->∃v,g v i/\aag v<=Rows.uptoBulk d.1):
 ∃vs:List PV,vs.length=l.length/\(∀(i:Nat)(v:PV),vs[i]?=some v->g v i)/\abq vs<=Rows.uptoBulkAll (xs.map (·.1)):=by
 induction l generalizing xs g with
 |nil=>
  simp at h;subst h
  exact⟨[],rfl,λi v m=>by simp at m,by simp[abq,Rows.uptoBulkAll]⟩
 |cons a r V=>
  rw[List.mapM_cons]at h
  simp only[Option.bind_eq_bind,Bh,Option.pure_def,Aj]at h
  obtain⟨y,U,ys,o,rfl⟩:=h
  obtain⟨v,O,X⟩:=t 0 a y rfl rfl U
  obtain⟨vs,z,G,W⟩:=V (g:=λv i=>g v (i+1)) o (λi a d I J M=>t (i+1) a d (by simpa using I) (by simpa using J) M)
  refine⟨v::vs,by simp[z],λi u m=>?_,?_⟩
  ·cases i with
   |zero=>simp at m;subst m;exact O
   |succ i=>exact G i u (by simpa using m)
  ·simp only[abq,Bl,Rows.uptoBulkAll];omega
theorem bf9(hS:ajt P S=true):∀(o:Nat)(T:TypeId)(cs:List Value)(d:DataW H)(ps:List MemPlace),S.any (Nat.beq T)=true->DataW.trod enc P w 0 (λ_=>true) true o T cs=some (d,ps)->
 ∃v,(Rep P (λb _=>b<w.heap.size) w T v cs/\abd P o T v)/\aag v<=Rows.uptoBulk d:=by
 intro o
 induction o with
 |zero=>intro T cs d ps _ h;simp[DataW.trod]at h
 |succ o ih=>
  intro T cs d ps hT h
  have hp:=aob hS hT
  unfold al7 at hp
  split at hp
  ·rename_i t;simp only[DataW.trod,t]at h;split at h<;>simp_all;obtain⟨rfl,rfl⟩:=h;exact⟨_,⟨.bool t,by simp[abd,t]⟩,by simp[aag,Rows.uptoBulk]⟩
  ·rename_i k t;simp only[DataW.trod,t]at h;split at h<;>simp_all;obtain⟨⟨rfl,hw⟩,rfl,rfl⟩:=h;exact⟨_,⟨.int t,by simp[abd,t,hw]⟩,by simp[aag,Rows.uptoBulk]⟩
  ·rename_i t;simp only[DataW.trod,t]at h;split at h<;>simp_all;rename_i s;obtain⟨_,rfl,rfl⟩:=h;refine⟨.str s.data.toList,⟨?_,by simp[abd,t]⟩,by simp[aag,Rows.uptoBulk]⟩;have:=Rep.str (P:=P) (D:=λb _=>b<w.heap.size) (w:=w) (T:=T) (s:=s.data.toList) t;simpa using this
  ·rename_i E t;simp only[Ai,Bool.not_eq_true']at hp;obtain⟨hE,Y⟩:=hp;have hc:P.cellsOf E≠0:=λe=>by rw[e]at Y;cases Y
   simp only[DataW.trod,t]at h;split at h
   ·cases ‹some (TypeDesc.slice E)=some _›
   ·cases ‹some (TypeDesc.slice E)=some _›
   ·cases ‹some (TypeDesc.slice E)=some _›
   ·cases ‹some (TypeDesc.slice E)=some _›
   ·cases ‹some (TypeDesc.slice E)=some _›
   ·cases ‹some (TypeDesc.slice E)=some _›
   ·simp only[Aj,Prod.mk.injEq]at h;obtain⟨rfl,rfl⟩:=h;exact⟨.slice [],⟨.nil t λ_=>rfl,by simp[abd,t]⟩,by simp[aag,abq,Rows.uptoBulk]⟩
   ·rename_i E' a G cap he;cases he;split at h
    ·rename_i hr;obtain⟨_,ax,av⟩:=hr;simp only[A8,Bh,Option.map_eq_some_iff]at h;obtain⟨am,h1,au,h2,h3⟩:=h;simp only[Prod.mk.injEq]at h3;obtain⟨rfl,_⟩:=h3;obtain⟨vs,g1,X,g3⟩:=ana (g:=λv i=>i<G->(∃ds cs,w.cells? 0 (a.add (i*P.cellsOf E)) (P.cellsOf E)=some cs/\Rep P (λb _=>b<w.heap.size) w E v cs/\abd P o E v/\ds=cs)) h1 (λi j dd I hd V=>by
      simp only[Bh]at V;obtain⟨O,U,ht⟩:=V;obtain⟨v,⟨q1,q2⟩,q3⟩:=ih E O dd.1 dd.2 hE ht;have ad:j=i:=by have Z:=(A6.1 I).1;simp at Z;simp[Z]at I;exact I.symm
      subst ad;exact⟨v,λ_=>⟨O,O,U,q1,q2,rfl⟩,q3⟩)
     have z:vs.length=G:=by simpa using g1
     refine⟨.slice vs,⟨?_,?_⟩,?_⟩
     ·by_cases h0:G=0
      ·subst h0;have:vs=[]:=A5 z;subst this;exact .nil t (λe=>by cases e)
      ·have aa:a.spot=none:=by
        obtain⟨_,O,U,_⟩:=X 0 vs[0] (Ap (by omega)) (by omega);obtain⟨_,hg⟩:=cells?_get U;obtain⟨v,_,M⟩:=hg 0 (by omega);simp only[Nat.zero_mul,Addr.add,A8]at M;unfold World.cell? at M;split at M
        ·split at M
         ·cases M
         ·rename_i hs;simpa using hs
        ·cases M
       have ab:∀i,i<G->∀j,j<P.cellsOf E->∃v,w.cell? ⟨a.block,a.off+(i*P.cellsOf E+j),none⟩=some v:=by intro i W j I;obtain⟨_,O,U,_⟩:=X i vs[i] (Ap (by omega)) W;obtain⟨_,hg⟩:=cells?_get U;obtain⟨v,_,M⟩:=hg j I;rw[ak7 a _ aa,ak7 _ _ rfl]at M;exact⟨v,by simpa[Nat.add_assoc]using M⟩
       have J:0<P.cellsOf E:=Nat.pos_of_ne_zero hc;have ag:∀j,j<G*P.cellsOf E->∃v,w.cell? ⟨a.block,a.off+j,none⟩=some v:=by intro j I;have h1:j / P.cellsOf E<G:=(Nat.div_lt_iff_lt_mul J).2 I;obtain⟨v,M⟩:=ab _ h1 (j%P.cellsOf E) (Nat.mod_lt _ J);have e:=Nat.div_add_mod j (P.cellsOf E);rw[Nat.mul_comm]at e;rw[e]at M;exact⟨v,M⟩
       have an:a=⟨a.block,a.off,none⟩:=by cases a;simp at aa;subst aa;rfl
       have ak:Rep P (λb _=>b<w.heap.size) w T (.slice vs) [.slice (some ⟨a.block,a.off,none⟩) vs.length cap]:=by
        refine .slice (L:=aga w a.block a.off (G*P.cellsOf E)) t (by omega) (by rw[ahv,z]) (λi x hx=>?_) (λj v I=>?_)
        ·have W:i<G:=by have:=(A6.1 hx).1;omega
         obtain⟨_,O,U,q1,_⟩:=X i x hx W;obtain⟨aw,hg⟩:=cells?_get U;have:((aga w a.block a.off (G*P.cellsOf E)).drop (i*P.cellsOf E)).take (P.cellsOf E)=O:=by
          apply List.ext_getElem?;intro j;by_cases I:j<P.cellsOf E
          ·obtain⟨v,ar,al⟩:=hg j I;rw[ak7 a _ aa,ak7 _ _ rfl]at al;have hb:i*P.cellsOf E+j<G*P.cellsOf E:=by
            have:=Au (P.cellsOf E) (show i+1<=G by omega);rw[Nat.add_mul]at this;omega
           rw[List.getElem?_take_of_lt I,List.getElem?_drop,ar];exact alc hb (by simpa[Nat.add_assoc]using al)
          ·rw[Bc (by simp;omega),Bc (by omega)]
         rw[this];exact q1
        ·have ae:=(A6.1 I).1;rw[ahv]at ae;obtain⟨v',af⟩:=ag j ae;have:=alc ae af;rw[I]at this;cases this;refine⟨?_,af⟩;show a.block<w.heap.size;rcases Nat.lt_or_ge a.block w.heap.size with h'|h'
         ·exact h'
         ·simp[World.cell?,Array.getElem?_eq_none h']at af
       rw[z,<-an]at ak;exact ak
     ·simp only[abd,t,PV.slice.injEq,exists_eq_left'];intro x hx;obtain⟨i,W⟩:=List.mem_iff_getElem?.1 hx;have aq:i<G:=by have:=(A6.1 W).1;omega
      obtain⟨_,_,_,_,q2,_⟩:=X i x W aq;exact q2
     ·simp only[aag,Rows.uptoBulk];omega
    ·cases h
   all_goals first|(cases h;done)|cases ‹some (TypeDesc.slice E)=some _›
  ·rename_i fs t;simp only[Ai]at hp;obtain⟨ai,ap⟩:=hp;have L:=act ai (abj t);have m:(if cs.length=P.cellsOf T then(fs.toList.mapM λf=>DataW.trod enc P w 0 (λ_=>true) true o f.type ((cs.drop f.offset).take (P.cellsOf f.type))).map λxs=>(DataW.agg (xs.map (·.1)),xs.flatMap (·.2))else none)=some (d,ps):=by
    rw[<-h];simp only[DataW.trod,t]
   split at m
   ·rename_i z;simp only[Option.map_eq_some_iff,Prod.mk.injEq]at m;obtain⟨xs,h1,rfl,_⟩:=m;obtain⟨vs,g1,X,g3⟩:=ana (g:=λv i=>∀f,fs[i]?=some f->Rep P (λb _=>b<w.heap.size) w f.type v ((cs.drop f.offset).take (P.cellsOf f.type))/\abd P o f.type v) h1 (λi f dd V hd ht=>by
     have aj:f∈fs.toList:=List.mem_of_getElem? V;obtain⟨v,q1,q2⟩:=ih f.type _ dd.1 dd.2 (Bd.1 ap f aj) ht;refine⟨v,λf' ao=>?_,q2⟩;have:f'=f:=by rw[Array.getElem?_toList]at V;rw[ao]at V;cases V;rfl
     subst this;exact q1)
    refine⟨.agg vs,⟨.agg t z ?_ (by simpa using g1) (λi v f M V=>(X i v M f V).1),?_⟩,by simp only[aag,Rows.uptoBulk];omega⟩
    ·refine L.oneCell z (λi f V=>?_);have W:i<vs.length:=by rw[g1,Array.length_toList];exact(Array.getElem?_eq_some_iff.1 V).1
     exact((X i _ (Ap W) f V).1).oneCell
    ·simp only[abd,t,PV.agg.injEq,exists_eq_left'];exact⟨by simpa using g1,λi x f hx V=>(X i x hx f V).2⟩
   ·cases m
  ·rename_i n E t;simp only[Ai,Bool.not_eq_true']at hp;obtain⟨⟨hE,ah⟩,Y⟩:=hp;have ah:=Ag ah;have J:0<P.cellsOf E:=Nat.pos_of_ne_zero (λe=>by rw[e]at Y;cases Y);have m:(if cs.length=P.cellsOf T then((List.range n).mapM λi=>DataW.trod enc P w 0 (λ_=>true) true o E ((cs.drop (i*P.cellsOf E)).take (P.cellsOf E))).map λxs=>(DataW.agg (xs.map (·.1)),xs.flatMap (·.2))else none)=some (d,ps):=by
    rw[<-h];simp only[DataW.trod,t]
   split at m
   ·rename_i z;simp only[Option.map_eq_some_iff,Prod.mk.injEq]at m;obtain⟨xs,h1,rfl,_⟩:=m;obtain⟨vs,g1,X,g3⟩:=ana (g:=λv i=>i<n->Rep P (λb _=>b<w.heap.size) w E v ((cs.drop (i*P.cellsOf E)).take (P.cellsOf E))/\abd P o E v) h1 (λi j dd I hd ht=>by
     obtain⟨v,q1,q2⟩:=ih E _ dd.1 dd.2 hE ht;have ad:j=i:=by have Z:=(A6.1 I).1;simp at Z;simp[Z]at I;exact I.symm
     subst ad;exact⟨v,λ_=>q1,q2⟩)
    have hl:vs.length=n:=by simpa using g1
    have lt:∀{i:Nat}{v:PV},vs[i]?=some v->i<n:=λW=>by have:=(A6.1 W).1;omega
    refine⟨.agg vs,⟨.arr t z ?_ hl (λi v M=>(X i v M (lt M)).1),?_⟩,by simp only[aag,Rows.uptoBulk];omega⟩
    ·intro c hc;obtain⟨j,I,rfl⟩:=List.mem_iff_getElem.1 hc;have hd:j / P.cellsOf E<n:=by rw[Nat.div_lt_iff_lt_mul J];omega
     refine((X _ _ (Ap (show j / P.cellsOf E<vs.length by omega)) hd).1).oneCell _ (List.mem_iff_getElem?.2 ⟨j%P.cellsOf E,?_⟩);rw[List.getElem?_take_of_lt (Nat.mod_lt _ J),List.getElem?_drop];have:=Nat.div_add_mod j (P.cellsOf E);rw[Nat.mul_comm]at this;rw[this,Ap I]
    ·simp only[abd,t,PV.agg.injEq,exists_eq_left'];refine⟨hl,λx hx=>?_⟩;obtain⟨i,W⟩:=List.mem_iff_getElem?.1 hx;exact(X i x W (lt W)).2
   ·cases m
  ·cases hp
end
theorem ap9{P:Program}{n:Nat}{T:TypeId}{v:PV}{o:Array Field}(h:abd P n T v)(I:P.underlying T=some (.struct o)):
 ∃vs m,v=.agg vs/\vs.length=o.size/\∀(i:Nat)(x:PV)(f:Field),vs[i]?=some x->o[i]?=some f->abd P m f.type x:=by
 cases n with
 |zero=>cases h
 |succ n=>
  simp only[abd,I]at h
  obtain⟨vs,t,z,G⟩:=h
  exact⟨vs,n,t,z,G⟩
theorem a5o{P:Program}{n:Nat}{T E:TypeId}{v:PV}(h:abd P n T v)(z:P.underlying T=some (.slice E)):∃xs m,v=.slice xs/\∀x,x∈xs->abd P m E x:=by
 cases n with
 |zero=>cases h
 |succ n=>simp only[abd,z]at h;obtain⟨xs,o,t⟩:=h;exact⟨xs,n,o,t⟩
theorem bed{P:Program}{n:Nat}{T:TypeId}{k:IntKind}{v:PV}(h:abd P n T v)(o:P.underlying T=some (.int k)):∃m,v=.int m/\(Lit.int k m).wf=true:=by
 cases n with
 |zero=>cases h
 |succ n=>simpa only[abd,o]using h
theorem afb(v:PV):v.asList.length+1<=aag v:=by
 cases v with
 |slice xs=>have:=ar9 xs;simp[PV.asList,aag];omega
 |_=>have:=aez;simp[PV.asList,aag]
theorem auh(v:PV):v.asStr.length+1<=aag v:=by cases v<;>simp[PV.asStr,aag]
end Go.Ab
