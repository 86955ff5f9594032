/- From the form's readings to plain data. -/
import Derived.Test.YticdffgjgfmicaaGreatDoorGenK
import Derived.Test.YticdffgjgfmicaaGreatDoorRows
import Derived.ChangeShapes
set_option linter.unusedVariables false
set_option linter.unusedSimpArgs false
set_option linter.unnecessarySimpa false
namespace Go.Ab
open Go Go.Proofs Go.Proofs.YticdffgjgfmicaaGreatDoor
def alr(P:Program)(S:List TypeId)(T:TypeId):Bool:=
 match P.underlying T with
 |some .bool|some (.int _)|some .string=>true
 |some (.slice E)=>S.any (Nat.beq E)&&!(Nat.beq (P.cellsOf E) 0)
 |some (.struct m)=>acq P T&&m.toList.all λf=>S.any (Nat.beq f.type)
 |some (.array n E)=>S.any (Nat.beq E)&&Nat.beq (P.cellsOf T) (n*P.cellsOf E)&&!(Nat.beq (P.cellsOf E) 0)
 |_=>false
def ajk(P:Program)(S:List TypeId):Bool:=S.all (alr P S)
theorem anw{P:Program}{S:List TypeId}(h:ajk P S=true){T:TypeId}(m:S.any (Nat.beq T)=true):alr P S T=true:=by obtain⟨x,t,o⟩:=List.any_eq_true.1 m;have:=Ag o;subst this;exact Be.1 h _ t
mutual
def aah:PV->Nat
 |.str s=>s.length+1
 |.slice xs=>abq xs+1
 |.agg xs=>abq xs+1
 |_=>1
def abq:List PV->Nat
 |[]=>0
 |x::r=>aah x+abq r
end
theorem aev(v:PV):1<=aah v:=by cases v<;>simp[aah]
theorem ag3:∀{xs:List PV}{x:PV},x∈xs->aah x<=abq xs:=by
 intro xs;induction xs with
 |nil=>intro x h;cases h
 |cons y r m=>
  intro x h;simp only[abq];rcases Bi.1 h with rfl|h
  ·omega
  ·have:=m h;omega
theorem aro(xs:List PV):xs.length<=abq xs:=by
 induction xs with
 |nil=>simp
 |cons y r m=>have:=aev y;simp only[abq,Al];omega
def aba(P:Program):Nat->TypeId->PV->Prop
 |0,_,_=>False
 |n+1,T,v=>
  match P.underlying T with
  |some .bool=>∃b,v=.bool b
  |some (.int k)=>∃m,v=.int m/\(Lit.int k m).wf=true
  |some .string=>∃s,v=.str s
  |some (.slice E)=>∃xs,v=.slice xs/\∀x,x∈xs->aba P n E x
  |some (.struct t)=>∃o,v=.agg o/\o.length=t.size/\∀(i:Nat)(x:PV)(f:Field),o[i]?=some x->t[i]?=some f->aba P n f.type x
  |some (.array k E)=>∃o,v=.agg o/\o.length=k/\∀x,x∈o->aba P n E x
  |_=>True
def af7(w:World)(b off n:Nat):List Value:=(List.range n).map λj=>(w.cell? ⟨b,off+j,none⟩).getD Go.undef
theorem ahr(w:World)(b off n:Nat):(af7 w b off n).length=n:=by simp[af7]
theorem ak3{w:World}{b off n j:Nat}{v:Value}(m:j<n)(h:w.cell? ⟨b,off+j,none⟩=some v):(af7 w b off n)[j]?=some v:=by simp[af7,m,h]
theorem aky(a:Addr)(n:Nat)(h:a.spot=none):a.add n=⟨a.block,a.off+n,none⟩:=by
 unfold Addr.add;split
 ·rename_i m;subst m;cases a;simp at h;subst h;rfl
 ·rfl
theorem cells?_get{w:World}{base:Nat}{a:Addr}{n:Nat}{cs:List Value}(h:w.cells? base a n=some cs):cs.length=n/\∀i,i<n->∃v,cs[i]?=some v/\w.cell? (a.add i)=some v:=by
 unfold World.cells? at h;split at h
 ·refine⟨by simpa using Lib.mapM_length h,λi m=>?_⟩;exact Lib.mapM_at h i i (by simp[m])
 ·cases h
section
variable{H:Type}{enc:TypeId×Value->H}{P:Program}{w:World}{S:List TypeId}
theorem amu{α:Type}{f:α->Option (DataW H×List MemPlace)}{l:List α}{xs:List (DataW H×List MemPlace)}(h:l.mapM f=some xs){g:PV->Nat->Prop}
 (z:∀(i:Nat)(a:α)(d:DataW H×List MemPlace),l[i]?=some a->xs[i]?=some d->f a=some d->∃v,g v i/\aah v<=Rows.uptoBulk d.1):
 ∃o:List PV,o.length=l.length/\(∀(i:Nat)(v:PV),o[i]?=some v->g v i)/\abq o<=Rows.uptoBulkAll (xs.map (·.1)):=by
 induction l generalizing xs g with
 |nil=>
  simp at h;subst h
  exact⟨[],rfl,λi v m=>by simp at m,by simp[abq,Rows.uptoBulkAll]⟩
 |cons a r W=>
  rw[List.mapM_cons]at h
  simp only[Option.bind_eq_bind,Bg,Option.pure_def,Aj]at h
  obtain⟨y,V,ys,t,rfl⟩:=h
  obtain⟨v,U,Y⟩:=z 0 a y rfl rfl V
  obtain⟨o,G,I,X⟩:=W (g:=λv i=>g v (i+1)) t (λi a d J M O=>z (i+1) a d (by simpa using J) (by simpa using M) O)
  refine⟨v::o,by simp[G],λi u m=>?_,?_⟩
  ·cases i with
   |zero=>simp at m;subst m;exact U
   |succ i=>exact I i u (by simpa using m)
  ·simp only[abq,Bl,Rows.uptoBulkAll];omega
theorem bff(hS:ajk P S=true):∀(o:Nat)(T:TypeId)(cs:List Value)(d:DataW H)(ps:List MemPlace),S.any (Nat.beq T)=true->DataW.trod enc P w 0 (λ_=>true) true o T cs=some (d,ps)->
 ∃v,(Rep P (λb _=>b<w.heap.size) w T v cs/\aba P o T v)/\aah v<=Rows.uptoBulk d:=by
 intro o
 induction o with
 |zero=>intro T cs d ps _ h;simp[DataW.trod]at h
 |succ o ih=>
  intro T cs d ps hT h
  have hp:=anw hS hT
  unfold alr at hp
  split at hp
  ·rename_i t;simp only[DataW.trod,t]at h;split at h<;>simp_all;obtain⟨rfl,rfl⟩:=h;exact⟨_,⟨.bool t,by simp[aba,t]⟩,by simp[aah,Rows.uptoBulk]⟩
  ·rename_i k t;simp only[DataW.trod,t]at h;split at h<;>simp_all;obtain⟨⟨rfl,hw⟩,rfl,rfl⟩:=h;exact⟨_,⟨.int t,by simp[aba,t,hw]⟩,by simp[aah,Rows.uptoBulk]⟩
  ·rename_i t;simp only[DataW.trod,t]at h;split at h<;>simp_all;rename_i s;obtain⟨_,rfl,rfl⟩:=h;refine⟨.str s.data.toList,⟨?_,by simp[aba,t]⟩,by simp[aah,Rows.uptoBulk]⟩;have:=Rep.str (P:=P) (D:=λb _=>b<w.heap.size) (w:=w) (T:=T) (s:=s.data.toList) t;simpa using this
  ·rename_i E t;simp only[Ai,Bool.not_eq_true']at hp;obtain⟨hE,Z⟩:=hp;have hc:P.cellsOf E≠0:=λe=>by rw[e]at Z;cases Z
   simp only[DataW.trod,t]at h;split at h
   ·cases ‹some (TypeDesc.slice E)=some _›
   ·cases ‹some (TypeDesc.slice E)=some _›
   ·cases ‹some (TypeDesc.slice E)=some _›
   ·cases ‹some (TypeDesc.slice E)=some _›
   ·cases ‹some (TypeDesc.slice E)=some _›
   ·cases ‹some (TypeDesc.slice E)=some _›
   ·simp only[Aj,Prod.mk.injEq]at h;obtain⟨rfl,rfl⟩:=h;exact⟨.slice [],⟨.nil t λ_=>rfl,by simp[aba,t]⟩,by simp[aah,abq,Rows.uptoBulk]⟩
   ·rename_i E' a G cap he;cases he;split at h
    ·rename_i hr;obtain⟨_,ay,aw⟩:=hr;simp only[A8,Bg,Option.map_eq_some_iff]at h;obtain⟨an,h1,av,h2,h3⟩:=h;simp only[Prod.mk.injEq]at h3;obtain⟨rfl,_⟩:=h3;obtain⟨V,g1,Y,g3⟩:=amu (g:=λv i=>i<G->(∃ds cs,w.cells? 0 (a.add (i*P.cellsOf E)) (P.cellsOf E)=some cs/\Rep P (λb _=>b<w.heap.size) w E v cs/\aba P o E v/\ds=cs)) h1 (λi j dd I hd W=>by
      simp only[Bg]at W;obtain⟨O,U,ht⟩:=W;obtain⟨v,⟨q1,q2⟩,q3⟩:=ih E O dd.1 dd.2 hE ht;have ae:j=i:=by have aa:=(A6.1 I).1;simp at aa;simp[aa]at I;exact I.symm
      subst ae;exact⟨v,λ_=>⟨O,O,U,q1,q2,rfl⟩,q3⟩)
     have z:V.length=G:=by simpa using g1
     refine⟨.slice V,⟨?_,?_⟩,?_⟩
     ·by_cases h0:G=0
      ·subst h0;have:V=[]:=A4 z;subst this;exact .nil t (λe=>by cases e)
      ·have ab:a.spot=none:=by
        obtain⟨_,O,U,_⟩:=Y 0 V[0] (Ao (by omega)) (by omega);obtain⟨_,hg⟩:=cells?_get U;obtain⟨v,_,M⟩:=hg 0 (by omega);simp only[Nat.zero_mul,Addr.add,A8]at M;unfold World.cell? at M;split at M
        ·split at M
         ·cases M
         ·rename_i hs;simpa using hs
        ·cases M
       have ad:∀i,i<G->∀j,j<P.cellsOf E->∃v,w.cell? ⟨a.block,a.off+(i*P.cellsOf E+j),none⟩=some v:=by intro i X j I;obtain⟨_,O,U,_⟩:=Y i V[i] (Ao (by omega)) X;obtain⟨_,hg⟩:=cells?_get U;obtain⟨v,_,M⟩:=hg j I;rw[aky a _ ab,aky _ _ rfl]at M;exact⟨v,by simpa[Nat.add_assoc]using M⟩
       have J:0<P.cellsOf E:=Nat.pos_of_ne_zero hc;have ah:∀j,j<G*P.cellsOf E->∃v,w.cell? ⟨a.block,a.off+j,none⟩=some v:=by intro j I;have h1:j / P.cellsOf E<G:=(Nat.div_lt_iff_lt_mul J).2 I;obtain⟨v,M⟩:=ad _ h1 (j%P.cellsOf E) (Nat.mod_lt _ J);have e:=Nat.div_add_mod j (P.cellsOf E);rw[Nat.mul_comm]at e;rw[e]at M;exact⟨v,M⟩
       have ao:a=⟨a.block,a.off,none⟩:=by cases a;simp at ab;subst ab;rfl
       have al:Rep P (λb _=>b<w.heap.size) w T (.slice V) [.slice (some ⟨a.block,a.off,none⟩) V.length cap]:=by
        refine .slice (L:=af7 w a.block a.off (G*P.cellsOf E)) t (by omega) (by rw[ahr,z]) (λi x hx=>?_) (λj v I=>?_)
        ·have X:i<G:=by have:=(A6.1 hx).1;omega
         obtain⟨_,O,U,q1,_⟩:=Y i x hx X;obtain⟨ax,hg⟩:=cells?_get U;have:((af7 w a.block a.off (G*P.cellsOf E)).drop (i*P.cellsOf E)).take (P.cellsOf E)=O:=by
          apply List.ext_getElem?;intro j;by_cases I:j<P.cellsOf E
          ·obtain⟨v,au,am⟩:=hg j I;rw[aky a _ ab,aky _ _ rfl]at am;have hb:i*P.cellsOf E+j<G*P.cellsOf E:=by
            have:=Av (P.cellsOf E) (show i+1<=G by omega);rw[Nat.add_mul]at this;omega
           rw[List.getElem?_take_of_lt I,List.getElem?_drop,au];exact ak3 hb (by simpa[Nat.add_assoc]using am)
          ·rw[Bd (by simp;omega),Bd (by omega)]
         rw[this];exact q1
        ·have af:=(A6.1 I).1;rw[ahr]at af;obtain⟨v',ag⟩:=ah j af;have:=ak3 af ag;rw[I]at this;cases this;refine⟨?_,ag⟩;show a.block<w.heap.size;rcases Nat.lt_or_ge a.block w.heap.size with h'|h'
         ·exact h'
         ·simp[World.cell?,Array.getElem?_eq_none h']at ag
       rw[z,<-ao]at al;exact al
     ·simp only[aba,t,PV.slice.injEq,exists_eq_left'];intro x hx;obtain⟨i,X⟩:=List.mem_iff_getElem?.1 hx;have ar:i<G:=by have:=(A6.1 X).1;omega
      obtain⟨_,_,_,_,q2,_⟩:=Y i x X ar;exact q2
     ·simp only[aah,Rows.uptoBulk];omega
    ·cases h
   all_goals first|(cases h;done)|cases ‹some (TypeDesc.slice E)=some _›
  ·rename_i fs t;simp only[Ai]at hp;obtain⟨aj,aq⟩:=hp;have L:=acr aj (abi t);have m:(if cs.length=P.cellsOf T then(fs.toList.mapM λf=>DataW.trod enc P w 0 (λ_=>true) true o f.type ((cs.drop f.offset).take (P.cellsOf f.type))).map λxs=>(DataW.agg (xs.map (·.1)),xs.flatMap (·.2))else none)=some (d,ps):=by
    rw[<-h];simp only[DataW.trod,t]
   split at m
   ·rename_i z;simp only[Option.map_eq_some_iff,Prod.mk.injEq]at m;obtain⟨xs,h1,rfl,_⟩:=m;obtain⟨V,g1,Y,g3⟩:=amu (g:=λv i=>∀f,fs[i]?=some f->Rep P (λb _=>b<w.heap.size) w f.type v ((cs.drop f.offset).take (P.cellsOf f.type))/\aba P o f.type v) h1 (λi f dd W hd ht=>by
     have ak:f∈fs.toList:=List.mem_of_getElem? W;obtain⟨v,q1,q2⟩:=ih f.type _ dd.1 dd.2 (Be.1 aq f ak) ht;refine⟨v,λf' ap=>?_,q2⟩;have:f'=f:=by rw[Array.getElem?_toList]at W;rw[ap]at W;cases W;rfl
     subst this;exact q1)
    refine⟨.agg V,⟨.agg t z ?_ (by simpa using g1) (λi v f M W=>(Y i v M f W).1),?_⟩,by simp only[aah,Rows.uptoBulk];omega⟩
    ·refine L.oneCell z (λi f W=>?_);have X:i<V.length:=by rw[g1,Array.length_toList];exact(Array.getElem?_eq_some_iff.1 W).1
     exact((Y i _ (Ao X) f W).1).oneCell
    ·simp only[aba,t,PV.agg.injEq,exists_eq_left'];exact⟨by simpa using g1,λi x f hx W=>(Y i x hx f W).2⟩
   ·cases m
  ·rename_i n E t;simp only[Ai,Bool.not_eq_true']at hp;obtain⟨⟨hE,ai⟩,Z⟩:=hp;have ai:=Ag ai;have J:0<P.cellsOf E:=Nat.pos_of_ne_zero (λe=>by rw[e]at Z;cases Z);have m:(if cs.length=P.cellsOf T then((List.range n).mapM λi=>DataW.trod enc P w 0 (λ_=>true) true o E ((cs.drop (i*P.cellsOf E)).take (P.cellsOf E))).map λxs=>(DataW.agg (xs.map (·.1)),xs.flatMap (·.2))else none)=some (d,ps):=by
    rw[<-h];simp only[DataW.trod,t]
   split at m
   ·rename_i z;simp only[Option.map_eq_some_iff,Prod.mk.injEq]at m;obtain⟨xs,h1,rfl,_⟩:=m;obtain⟨V,g1,Y,g3⟩:=amu (g:=λv i=>i<n->Rep P (λb _=>b<w.heap.size) w E v ((cs.drop (i*P.cellsOf E)).take (P.cellsOf E))/\aba P o E v) h1 (λi j dd I hd ht=>by
     obtain⟨v,q1,q2⟩:=ih E _ dd.1 dd.2 hE ht;have ae:j=i:=by have aa:=(A6.1 I).1;simp at aa;simp[aa]at I;exact I.symm
     subst ae;exact⟨v,λ_=>q1,q2⟩)
    have hl:V.length=n:=by simpa using g1
    have lt:∀{i:Nat}{v:PV},V[i]?=some v->i<n:=λX=>by have:=(A6.1 X).1;omega
    refine⟨.agg V,⟨.arr t z ?_ hl (λi v M=>(Y i v M (lt M)).1),?_⟩,by simp only[aah,Rows.uptoBulk];omega⟩
    ·intro c hc;obtain⟨j,I,rfl⟩:=List.mem_iff_getElem.1 hc;have hd:j / P.cellsOf E<n:=by rw[Nat.div_lt_iff_lt_mul J];omega
     refine((Y _ _ (Ao (show j / P.cellsOf E<V.length by omega)) hd).1).oneCell _ (List.mem_iff_getElem?.2 ⟨j%P.cellsOf E,?_⟩);rw[List.getElem?_take_of_lt (Nat.mod_lt _ J),List.getElem?_drop];have:=Nat.div_add_mod j (P.cellsOf E);rw[Nat.mul_comm]at this;rw[this,Ao I]
    ·simp only[aba,t,PV.agg.injEq,exists_eq_left'];refine⟨hl,λx hx=>?_⟩;obtain⟨i,X⟩:=List.mem_iff_getElem?.1 hx;exact(Y i x X (lt X)).2
   ·cases m
  ·cases hp
end
theorem apn{P:Program}{n:Nat}{T:TypeId}{v:PV}{t:Array Field}(h:aba P n T v)(J:P.underlying T=some (.struct t)):
 ∃o m,v=.agg o/\o.length=t.size/\∀(i:Nat)(x:PV)(f:Field),o[i]?=some x->t[i]?=some f->aba P m f.type x:=by
 cases n with
 |zero=>cases h
 |succ n=>
  simp only[aba,J]at h
  obtain⟨o,z,G,I⟩:=h
  exact⟨o,n,z,G,I⟩
theorem a4f{P:Program}{n:Nat}{T E:TypeId}{v:PV}(h:aba P n T v)(z:P.underlying T=some (.slice E)):∃xs m,v=.slice xs/\∀x,x∈xs->aba P m E x:=by
 cases n with
 |zero=>cases h
 |succ n=>simp only[aba,z]at h;obtain⟨xs,o,t⟩:=h;exact⟨xs,n,o,t⟩
theorem bdf{P:Program}{n:Nat}{T:TypeId}{k:IntKind}{v:PV}(h:aba P n T v)(o:P.underlying T=some (.int k)):∃m,v=.int m/\(Lit.int k m).wf=true:=by
 cases n with
 |zero=>cases h
 |succ n=>simpa only[aba,o]using h
theorem ae4(v:PV):v.asList.length+1<=aah v:=by
 cases v with
 |slice xs=>have:=aro xs;simp[PV.asList,aah];omega
 |_=>have:=aev;simp[PV.asList,aah]
theorem att(v:PV):v.asStr.length+1<=aah v:=by cases v<;>simp[PV.asStr,aah]
end Go.Ab
