/- Operations that read memory. -/
import Derived.Test.YtofplaamkkpciaaGreatDoorAbAct
set_option linter.unusedVariables false
set_option linter.unusedSimpArgs false
set_option linter.unnecessarySimpa false
namespace Go.Ab
open Go
theorem aem{P:Program}{T:TypeId}(o:(P.underlying T).isSome=true)(w:World)(b off:Nat)(cs:List Value)(H:∀j v,cs[j]?=some v->w.cell? ⟨b,off+j,none⟩=some v)
 (G:aah P T=true->cs.length=P.cellsOf T) (z:aah P T=false->∃u,cs=[u]):(loadVar T ⟨b,off,none⟩).run P w=.ok (pack P T cs) w:=by
 unfold loadVar
 simp only[Sem.run_bind,ani o,Result.andThen_ok]
 cases m:aah P T with
 |true=>
  obtain⟨d,I⟩:=Option.isSome_iff_exists.1 o
  obtain⟨i,J,M⟩:=alk I
  have t:=run_loadCells_list (P:=P) w ⟨b,off,none⟩ cs (λj v O=>by grind[abv])
  rw[G m]at t
  simp only[A8,Sem.run_bind,aax J M,Result.andThen_ok,t,pack,m]
  rfl
 |false=>
  obtain⟨u,rfl⟩:=z m
  have:=H 0 u rfl
  simp only[Nat.add_zero]at this
  simp[this,pack,m]
section
variable{Γ:Ctx}{D:Dom}{ow:Own}{μ:Nat->Nat}{st:List BX}{w:World}
theorem Rep.single{P:Program}{T:TypeId}{v:PV}{cs:List Value}(h:Rep P D w T v cs)(o:aah P T=false):∃u,cs=[u]:=by
 cases h with
 |agg m=>grind[aah]
 |arr m=>grind[aah]
 |_=>exact⟨_,rfl⟩
theorem beb{α:Type}{l:List α}{i:Nat}{d:α}(h:i<l.length):l[i]?=some (l.getD i d):=by grind
theorem ape{P:Program}{TB E:TypeId}{n:Nat}{z:PV}{m:List Value}(G:P.underlying TB=some (.array n E))(h:SRep P D w ow μ st (.data TB z) (pack P TB m))(U:m.length=P.cellsOf TB):
 z=.agg z.parts/\z.parts.length=n/\m.length=P.cellsOf TB/\(∀c,c∈m->c.oneCell'=true)/\∀(i:Nat)(x:PV),z.parts[i]?=some x->Rep P D w E x ((m.drop (i*P.cellsOf E)).take (P.cellsOf E)):=by
 have I:aah P TB=true:=by simp[aah,G]
 simp only[pack,I,A8]at h
 generalize H:Value.agg m.toArray=v at h
 cases h with
 |data _ J=>
  simp only[Value.agg.injEq]at H
  have t:=congrArg Array.toList H
  simp only[List.toList_toArray]at t
  subst t
  cases J with
  |agg o=>grind
  |arr o l1 M O r1=>rw[G]at o;cases o;exact⟨rfl,O,l1,M,r1⟩
  |raw o=>grind[rawT]
  |bool o=>grind
  |int o=>grind
  |str o=>grind
  |nil o=>grind
  |slice o=>grind
  |mapnil o=>grind
  |map _ _ o=>grind
theorem ab1{k g:Nat}{E:TypeId}{xs:List PV}(h:ad1 st k g E=some xs):st[k]?=some (.arr E g xs):=by
 unfold ad1 at h;split at h
 ·rename_i m o xs' z;cases t:(Nat.beq g o&&Nat.beq E m)with
  |false=>grind
  |true=>simp_all
 ·cases h
theorem a2g(O:WRel Γ D ow μ st w){k g i:Nat}{E:TypeId}{xs:List PV}{m:Array Value}(M:st[k]?=some (.arr E g xs))(J:i<xs.length)(I:w.heap[μ k]?=some (.cells m E (0,0))):
 (i+1)*Γ.P.cellsOf E<=m.size/\(∀o,¬D (μ k) o)/\Rep Γ.P D w E (xs.getD i .bad) ((m.toList.drop (i*Γ.P.cellsOf E)).take (Γ.P.cellsOf E)):=by
 rcases O.obj k _ M with h|⟨t,z,V,G,H,W⟩
 ·grind
 ·rw[I]at z;cases z;have U:xs[i]?=some xs[i]:=Ap J;have X:xs.getD i PV.bad=xs[i]:=by grind
  refine⟨Nat.le_trans (Au _ (by omega)) H,G,?_⟩;grind
theorem a6a(hw:WRel Γ D ow μ st w)(T:TypeId)(a:SV)(ad:Value)(v:SV)(o:SRep Γ.P D w ow μ st a ad)(h:ahy Γ.P T st a=.val true v):
 ∃u,(Instr.loadAt T ad).run Γ.P w=.ok u w/\SRep Γ.P D w ow μ st v u:=by
 unfold ahy at h
 split at h
 ·rename_i I pv;cases t:(Nat.beq T I&&(Γ.P.underlying T).isSome)with
  |false=>grind
  |true=>
   rw[t]at h;simp only[Ai]at t;have:=Ag t.1;subst this;simp only[Ad,Ac.val.injEq,true_and]at h;subst h;cases o with
   |@pto _ _ b off cs hh M=>refine⟨_,?_,M.ofPV⟩;simp only[Instr.loadAt,Instr.sureAddr,Sem.run_bind,Sem.run_pure,Result.andThen_ok];exact aem t.2 w b off cs (λj v Y=>(hh j v Y).2) (λo=>M.aggLen o) (λo=>M.single o)
 ·rename_i k path I;cases t:(Nat.beq T I&&(Γ.P.underlying T).isSome)with
  |false=>grind
  |true=>
   rw[t]at h;simp only[Ai]at t;have:=Ag t.1;subst this;simp only[Ad]at h;cases o with
   |@ref _ _ _ TB s off z hp=>
    rw[z]at h;simp only at h;cases W:(aah Γ.P T||Nat.beq (Γ.P.cellsOf T) 1)with
    |false=>grind
    |true=>
     rw[W]at h;simp only[Ad]at h;cases O:aim Γ.P TB s path with
     |none=>grind
     |some x=>
      rw[O]at h;simp only[Ac.val.injEq,true_and]at h;subst h;obtain⟨m,I,q1,q2,q3,q4,q5⟩:=hw.box k TB s z;obtain⟨r1,r2⟩:=ali path TB s m off T x q5 q2 hp O;refine⟨_,?_,r1⟩;have G:((m.drop off).take (Γ.P.cellsOf T)).length=Γ.P.cellsOf T:=by simp;omega
      simp only[Instr.loadAt,Instr.sureAddr,Sem.run_bind,Sem.run_pure,Result.andThen_ok];refine aem t.2 w (μ k) off _ (λj v Y=>?_) (λ_=>G) (λo=>?_)
      ·grind[List.getElem?_eq_some_iff,List.getElem?_take_of_lt,World.cell?]
      ·rw[o]at W;simp at W;rw[W]at G ⊢;match(m.drop off).take 1,G with
       |[u],_=>grind
 ·rename_i k i E;cases t:(Nat.beq T E&&aa7 Γ.P E)with
  |false=>grind
  |true=>
   rw[t]at h;simp only[Ad]at h;simp only[Ai,aa7]at t;have:=Ag t.1;subst this;cases o with
   |@eref _ _ n _ TB s z hT hi=>
    rw[z]at h;simp only at h;cases U:(isOf Γ.P TB s&&awv Γ.P TB T)with
    |false=>grind
    |true=>
     rw[U]at h;simp only[Ad,Ac.val.injEq,true_and]at h;subst h;simp only[Ai]at U;obtain⟨m,I,q1,q2,q3,q4,q5⟩:=hw.box k TB _ z;have o:aah Γ.P TB=true:=by simp[aah,hT]
     have af:=aa9 q5 TB U.1;have hd:SRep Γ.P D w ow μ st (.data TB (toPV s)) (pack Γ.P TB m):=by simp only[pack,o,A8]at af ⊢;exact .data o (by grind[Value.cells])
     obtain⟨a1,a2,a3,a4,a5⟩:=ape hT hd q2;have ag:(toPV s).parts[i]?=some ((toPV s).fld i):=by grind[PV.fld,beb]
     have M:=a5 i _ ag;refine⟨_,?_,M.ofPV⟩;simp only[Instr.loadAt,Instr.sureAddr,Sem.run_bind,Sem.run_pure,Result.andThen_ok];refine aem t.2.1.2 w (μ k) _ _ (λj v Y=>?_) (λo=>M.aggLen o) (λo=>M.single o);grind[List.getElem?_eq_some_iff,List.length_take,List.getElem?_take_of_lt,World.cell?]
 ·rename_i k g i E path I;cases t:(Nat.beq T I&&aa7 Γ.P E&&aa7 Γ.P T)with
  |false=>grind
  |true=>
   rw[t]at h;simp only[Ad]at h;simp only[Ai,aa7,Bool.not_eq_true',A7]at t;obtain⟨⟨aa,⟨ah,ai⟩,aj⟩,⟨ak,ab⟩,ae⟩:=t;have:=Ag aa;subst this;split at h;case h_2=>cases h
   rename_i xs Z;have V:=ab1 Z;cases o with
   |arefOld z O=>grind
   |@aref _ _ _ off _ _ _ al J z hi hp U ho=>
    rw[V]at z;cases z;obtain⟨a1,a2,a3⟩:=a2g hw V hi U;cases O:aim Γ.P E (ofPV Γ.P E (xs.getD i .bad)) path with
    |none=>grind
    |some x=>
     rw[O]at h;simp only[Ac.val.injEq,true_and]at h;subst h;have H:((J.toList.drop (i*Γ.P.cellsOf E)).take (Γ.P.cellsOf E)).length=Γ.P.cellsOf E:=by grind
     obtain⟨r1,r2⟩:=ali (ow:=ow) (μ:=μ) (st:=st) path E _ _ off T x a3.ofPV H hp O;refine⟨_,?_,r1⟩;simp only[Instr.loadAt,Instr.sureAddr,Sem.run_bind,Sem.run_pure,Result.andThen_ok];rw[H]at r2;have G:(((J.toList.drop (i*Γ.P.cellsOf E)).take (Γ.P.cellsOf E)).drop off |>.take (Γ.P.cellsOf T)).length=Γ.P.cellsOf T:=by grind
     refine aem ab w (μ k) _ _ (λj v Y=>?_) (λ_=>G) (λo=>?_)
     ·grind[List.getElem?_eq_some_iff,List.getElem?_take_of_lt,World.cell?,Nat.add_assoc]
     ·rcases ae with X|X
      ·grind
      ·have X:=Ag X;generalize(((J.toList.drop (i*Γ.P.cellsOf E)).take (Γ.P.cellsOf E)).drop off |>.take (Γ.P.cellsOf T))=l at G ⊢;rw[X]at G;match l,G with
       |[u],_=>grind
 ·simp at h
theorem aiu{P:Program}:∀(path:List Nat)(TB:TypeId)(off:Nat)(S:TypeId)(i:Nat)(m:Array Field)(f:Field),acf P TB path=some (off,S)->aggF P S=some m->m[i]?=some f->
 acf P TB (path++[i])=some (off+f.offset,f.type):=by
 intro path
 induction path with
 |nil=>
  intro TB off S i m f h z H
  simp[acf]at h
  obtain⟨rfl,rfl⟩:=h
  grind[acf]
 |cons j p O=>
  intro TB off S i m f h z H
  unfold acf at h
  cases G:aggF P TB with
  |none=>grind
  |some M=>
   rw[G]at h
   simp only at h
   cases I:M[j]? with
   |none=>grind
   |some g=>
    rw[I]at h
    simp only at h
    cases J:acf P g.type p with
    |none=>grind
    |some r=>
     obtain⟨o,t⟩:=r
     rw[J]at h
     simp at h
     obtain⟨rfl,rfl⟩:=h
     have:=O g.type o t i m f J z H
     simp only[A2,acf,G,I,this,Option.map_some,Nat.add_assoc]
theorem Held.sub{b off:Nat}{cs:List Value}(h:Held D w b off cs)(o n:Nat):Held D w b (off+o) ((cs.drop o).take n):=by
 intro j v t;by_cases m:j<n
 ·rw[List.getElem?_take_of_lt m,List.getElem?_drop]at t;have:=h _ v t;grind
 grind
theorem ap1(S:TypeId)(i:Nat)(a:SV)(Y:Value)(v:SV)(O:SRep Γ.P D w ow μ st a Y)(h:ac3 Γ.P st S i a=.val true v):
 ∃u,(Instr.fieldAt S Y i).run Γ.P w=.ok u w/\SRep Γ.P D w ow μ st v u:=by
 unfold ac3 at h
 split at h
 ·rename_i Z z;split at h
  ·rename_i f G;cases U:Nat.beq (Γ.P.cellsOf f.type) 0 with
   |true=>grind
   |false=>
    rw[U]at h;simp only[Af]at h;have I:Γ.P.cellsOf f.type≠0:=λe=>by simp_all
    obtain⟨ah,V,hs⟩:=aay I;have m:∀b off:Nat,(fieldPlace ⟨b,off,none⟩ f).run Γ.P w=.ok ⟨b,off+f.offset,none⟩ w:=by intro b off;simp[fieldPlace,aax V hs,I,abv]
    split at h
    ·rename_i T pv;cases t:Nat.beq S T with
     |false=>grind
     |true=>
      rw[t]at h;simp only[Ad,Ac.val.injEq,true_and]at h;have:=Ag t;subst this;subst h;cases O with
      |@pto _ _ b off cs hh hr=>
       refine⟨.pointer (some ⟨b,off+f.offset,none⟩),by simp[Instr.fieldAt,run_underlying z,G,Instr.sureAddr,m],?_⟩;cases hr with
       |@agg _ ab vs _ o ae af ag J=>
        rw[z]at o;cases o;have W:i<vs.length:=by grind
        have M:vs[i]?=some vs[i]:=Ap W;rw[auw M];exact .pto (hh.sub _ _) (J i vs[i] f M G)
       |arr o=>grind
       |bool o=>grind
       |int o=>grind
       |str o=>grind
       |nil o=>grind
       |slice o=>grind
       |mapnil o=>grind
       |map _ _ o=>grind
       |raw J=>grind[rawT]
    ·rename_i k path T;cases t:Nat.beq S T with
     |false=>grind
     |true=>
      rw[t]at h;simp only[Ad,Ac.val.injEq,true_and]at h;have:=Ag t;subst this;subst h;cases O with
      |@ref _ _ _ TB s off H X=>refine⟨.pointer (some ⟨μ k,off+f.offset,none⟩),by simp[Instr.fieldAt,run_underlying z,G,Instr.sureAddr,m],?_⟩;exact .ref H (aiu path TB off S i Z f X (abj z) G)
    ·rename_i k T;cases t:(Nat.beq S T&&Nat.beq f.offset 0)with
     |false=>grind
     |true=>
      rw[t]at h;simp only[Ad,Ac.val.injEq,true_and]at h;simp only[Ai]at t;have U:=Ag t.2;subst h;cases O with
      |bref H=>refine⟨.pointer (some ⟨μ k,0+f.offset,none⟩),by simp[Instr.fieldAt,run_underlying z,G,Instr.sureAddr,m],?_⟩;rw[U];exact .bref H
    ·rename_i k g j E path T;cases t:(Nat.beq S T&&afz st k g)with
     |false=>grind
     |true=>
      rw[t]at h;simp only[Ad,Ac.val.injEq,true_and]at h;simp only[Ai]at t;have:=Ag t.1;subst this;subst h;cases O with
      |arefOld H hg h1=>grind[afz,Nat.eq_of_beq_eq_true]
      |@aref _ _ _ off _ _ _ xs aa H V X hc ho=>refine⟨.pointer (some ⟨μ k,j*Γ.P.cellsOf E+off+f.offset,none⟩),by simp[Instr.fieldAt,run_underlying z,G,Instr.sureAddr,m],?_⟩;rw[Nat.add_assoc];exact .aref H V (aiu path E off S i Z f X (abj z) G) hc ho
    ·simp at h
  ·simp at h
 ·simp at h
theorem anl{E:TypeId}{x:SV}{v:Value}{xs:List PV}(o:SRep Γ.P D w ow μ st x v)(m:an5 x=some xs)(t:an0 Γ.P E x=true):SliceRep Γ.P D w E xs v:=by
 unfold an5 at m;split at m
 ·cases m;cases o with|slice h=>have:=Ag t;grind
 ·cases m;cases o with|acc h=>have:=Ag t;grind
 ·cases m;cases o with|lit h=>have:=Ag t;grind
 ·cases m;cases o with|sln h=>have:=Ag t;grind
 ·cases m;cases o;exact .nil λ_=>rfl
 ·simp at m
theorem aud(T:TypeId)(x i:SV)(xv J:Value)(W:SRep Γ.P D w ow μ st x xv)(O:SRep Γ.P D w ow μ st i J){r:Bool×SV}(h:apc Γ.P T x i=some r)(Y:r.1=true):
 ∃u,(Instr.indexAt T xv J).run Γ.P w=.ok u w/\SRep Γ.P D w ow μ st r.2 u:=by
 unfold apc at h
 split at h
 case h_2=>cases h
 rename_i n E k M Z m G
 cases t:(Nat.beq T M&&aa7 Γ.P E)with
 |false=>grind
 |true=>
  rw[t]at h
  simp only[Ad,Aj]at h
  subst h
  simp only[Ai,aa7,Bool.not_eq_true']at t
  have:=Ag t.1;subst this
  have z:Γ.P.cellsOf E≠0:=λe=>by simp_all
  obtain⟨X,o,V⟩:=aay z
  have I:0<=m/\m<(n:Int):=by grind[aab]
  cases O
  cases W with
  |ref U H=>
   simp only[acf,Aj,Prod.mk.injEq]at H
   obtain⟨rfl,rfl⟩:=H
   refine⟨.pointer (some ⟨μ k,m.toNat*Γ.P.cellsOf E,none⟩),?_,.eref U G (by omega)⟩
   simp[Instr.indexAt,asIntOf,Instr.sureAddr,run_underlying G,I.1,I.2,aax o V,abv]
theorem aue(T:TypeId)(J:Bool)(x i:SV)(xv M:Value)(hx:SRep Γ.P D w ow μ st x xv)(Z:SRep Γ.P D w ow μ st i M){r:Bool×SV}(h:apd Γ.P T J x i=some r):
 ∃u,(Instr.indexAt T xv M).run Γ.P w=.ok u w/\SRep Γ.P D w ow μ st r.2 u:=by
 unfold apd at h
 cases J with
 |false=>cases h
 |true=>
 simp only[An,Af]at h
 split at h
 case h_2=>cases h
 rename_i n E k path O ki m X
 split at h
 case h_2=>cases h
 rename_i z H
 cases G:(Nat.beq T O&&aa7 Γ.P E&&decide (0<=m)&&Nat.blt m.toNat n)with
 |false=>grind
 |true=>
  rw[G]at h
  simp only[Ad,Aj]at h
  subst h
  simp only[Ai,aa7,Bool.not_eq_true',Ax]at G
  obtain⟨⟨⟨U,b2⟩,V⟩,W⟩:=G
  have:=Ag U;subst this
  have I:Γ.P.cellsOf E≠0:=λe=>by simp_all
  obtain⟨ad,t,hs⟩:=aay I
  have aa:m.toNat<n:=by simpa using W
  have hr:m<(n:Int):=by omega
  cases Z
  obtain⟨ab,o⟩:=ak8 H
  have Y:z[m.toNat]?=some z[m.toNat]:=Array.getElem?_eq_getElem (by omega)
  obtain⟨_,q1,q2⟩:=o _ _ Y
  have hA:aggF Γ.P T=some z:=by grind[aggF]
  cases hx with
  |@ref _ _ _ TB v off hk hp=>
   refine⟨.pointer (some ⟨μ k,off+m.toNat*Γ.P.cellsOf E,none⟩),?_,.ref hk ?_⟩
   ·simp[Instr.indexAt,asIntOf,Instr.sureAddr,run_underlying X,V,hr,aax t hs,abv]
   grind[aiu]
theorem av2(T:TypeId)(x i:SV)(xv iv:Value)(hx:SRep Γ.P D w ow μ st x xv)(hi:SRep Γ.P D w ow μ st i iv){r:Bool×SV}(h:ahq Γ.P T st x i=some r)(h1:r.1=true):
 ∃u,(Instr.indexAt T xv iv).run Γ.P w=.ok u w/\SRep Γ.P D w ow μ st r.2 u:=by
 unfold ahq at h
 split at h
 case h_3=>cases h
 case h_2=>
  rename_i E k g Z J ki n M
  split at h
  case h_2=>cases h
  rename_i xs z
  have o:=ab1 z
  cases G:(Nat.beq E J&&aa7 Γ.P E)with
  |false=>grind
  |true=>
   rw[G]at h
   simp only[Ad,Aj]at h
   subst h
   simp only[Ai,aa7,Bool.not_eq_true']at G
   have:=Ag G.1;subst this
   have H:Γ.P.cellsOf E≠0:=λe=>by simp_all
   obtain⟨Y,m,W⟩:=aay H
   have I:0<=n/\n<((xs.length-Z:Nat):Int):=by grind[aab]
   cases hi
   cases hx with
   |avwOld t hg=>grind
   |avw t aa hl U O V X=>
    rw[o]at t;cases t
    refine⟨.pointer (some ⟨μ k,Z*Γ.P.cellsOf E+n.toNat*Γ.P.cellsOf E,none⟩),?_,?_⟩
    ·simp[Instr.indexAt,asIntOf,run_underlying M,I.1,I.2,aax m W,abv]
    ·have:=SRep.aref (P:=Γ.P) (D:=D) (w:=w) (ow:=ow) (μ:=μ) (st:=st) (i:=Z+n.toNat) (off:=0) (T:=E) (path:=[]) o (by omega) rfl O V;grind
 rename_i E k g J ki n M
 split at h
 case h_2=>cases h
 rename_i xs z
 have o:=ab1 z
 cases G:(Nat.beq E J&&aa7 Γ.P E)with
 |false=>grind
 |true=>
  rw[G]at h
  simp only[Ad,Aj]at h
  subst h
  simp only[Ai,aa7,Bool.not_eq_true']at G
  have:=Ag G.1;subst this
  have H:Γ.P.cellsOf E≠0:=λe=>by simp_all
  obtain⟨Y,m,W⟩:=aay H
  have I:0<=n/\n<(xs.length:Int):=by grind[aab]
  cases hi
  cases hx with
  |arrOld t hg=>grind
  |arrNil t=>grind
  |arr t hl U O V X=>
   rw[o]at t;cases t
   refine⟨.pointer (some ⟨μ k,0+n.toNat*Γ.P.cellsOf E,none⟩),?_,?_⟩
   ·simp[Instr.indexAt,asIntOf,run_underlying M,I.1,I.2,aax m W,abv]
   ·have:=SRep.aref (P:=Γ.P) (D:=D) (w:=w) (ow:=ow) (μ:=μ) (st:=st) (i:=n.toNat) (off:=0) (T:=E) (path:=[]) o (by omega) rfl O V;grind
theorem aqb(T:TypeId)(x i:SV)(xv X:Value)(v:SV)(hx:SRep Γ.P D w ow μ st x xv)(hi:SRep Γ.P D w ow μ st i X)(h:ac4 Γ.P T st x i=.val true v):
 ∃u,(Instr.indexAt T xv X).run Γ.P w=.ok u w/\SRep Γ.P D w ow μ st v u:=by
 unfold ac4 at h
 cases o:apc Γ.P T x i with
 |some r=>
  rw[o]at h
  simp only[Ac.val.injEq]at h
  obtain⟨U,rfl⟩:=h
  grind[aud]
 |none=>
 rw[o]at h
 simp only at h
 cases t:ahq Γ.P T st x i with
 |some r=>
  rw[t]at h
  simp only[Ac.val.injEq]at h
  obtain⟨U,rfl⟩:=h
  grind[av2]
 |none=>
 rw[t]at h
 simp only at h
 split at h
 ·rename_i E xs k n Y hl;cases H:(an0 Γ.P E x&&!(Nat.beq (Γ.P.cellsOf E) 0))with
  |false=>grind
  |true=>
   rw[H]at h;simp only[Ad,Ac.val.injEq]at h;obtain⟨U,rfl⟩:=h;simp only[Ai,Bool.not_eq_true']at H;have J:Γ.P.cellsOf E≠0:=λe=>by simp_all
   obtain⟨aa,z,hs⟩:=aay J;have M:=anl hx hl H.1;have W:0<=n/\n<(xs.length:Int):=by grind[aab]
   cases hi;cases M with
   |nil=>grind
   |@mk b off cap _ L V hL G m=>
    have I:n.toNat<xs.length:=by omega
    have O:xs[n.toNat]?=some xs[n.toNat]:=Ap I;have Z:xs.getD n.toNat PV.bad=xs[n.toNat]:=by grind
    refine⟨.pointer (some ⟨b,off+n.toNat*Γ.P.cellsOf E,none⟩),?_,?_⟩
    ·simp[Instr.indexAt,asIntOf,run_underlying Y,W.1,W.2,aax z hs,abv]
    ·rw[Z];exact .pto (m.sub _ _) (G _ _ O)
 ·simp at h
theorem a0e(T:TypeId)(x i:SV)(xv iv:Value)(v:SV)(hx:SRep Γ.P D w ow μ st x xv)(hi:SRep Γ.P D w ow μ st i iv)(h:ako Γ.P T x i=.val true v):
 ∃u,(Instr.index T xv iv).run Γ.P w=.ok u w/\SRep Γ.P D w ow μ st v u:=by
 unfold ako at h
 split at h
 ·rename_i s k n M;simp only[Ac.val.injEq]at h;obtain⟨h1,rfl⟩:=h;have O:0<=n/\n<(s.length:Int):=by grind[aab]
  cases hx;cases hi;have t:n.toNat<s.length:=by omega
  have e:(⟨s.toArray⟩:ByteArray)[n.toNat]?=some s[n.toNat]:=by rw[ByteArray.getElem?_lt' _ _ (by show n.toNat<s.toArray.size;simpa using t)];rfl
  have hd:s.getD n.toNat 0=s[n.toNat]:=by grind
  refine⟨_,by simp[Instr.index,asIntOf,run_underlying M,O.1,e];rfl,?_⟩;rw[hd];exact .int
 ·rename_i m E T' pv k n M;cases U:(Nat.beq T T'&&aa7 Γ.P E&&Nat.beq (Γ.P.cellsOf T) (m*Γ.P.cellsOf E))with
  |false=>grind
  |true=>
   rw[U]at h;simp only[Ad,Ac.val.injEq]at h;obtain⟨h1,rfl⟩:=h;simp only[Ai,aa7,Bool.not_eq_true',A7]at U;obtain⟨⟨V,⟨ae,W⟩,X⟩,Y⟩:=U;have:=Ag V;subst this;have aa:Γ.P.cellsOf E≠0:=λe=>by simp_all
   obtain⟨ah,G,hs⟩:=aay aa;have ab:=Ag Y;have O:0<=n/\n<(m:Int):=by grind[aab]
   cases hi;cases hx with
   |@data _ _ cs ad I=>
    cases I with
    |@arr _ E2 m2 vs _ o Z af ag H=>
     rw[M]at o;cases o;have t:n.toNat<vs.length:=by omega
     have J:vs[n.toNat]?=some vs[n.toNat]:=Ap t;have z:n.toNat*Γ.P.cellsOf E+Γ.P.cellsOf E<=cs.length:=by rw[Z,ab];have:(n.toNat+1)*Γ.P.cellsOf E<=m*Γ.P.cellsOf E:=Au _ (by omega);grind
     have hp:=av4 W cs (n.toNat*Γ.P.cellsOf E) z (X.imp id Ag) w;refine⟨pack Γ.P E ((cs.drop (n.toNat*Γ.P.cellsOf E)).take (Γ.P.cellsOf E)),?_,?_⟩
     ·simp only[Instr.index,asIntOf,Sem.run_bind,Sem.run_pure,Result.andThen_ok,run_underlying M];simp only[O.1,O.2,and_self,A8,Sem.run_bind,aax G hs,Result.andThen_ok];rw[hp]
     ·rw[auw J];exact(H _ _ J).ofPV
    |agg o=>grind
    |bool o=>grind
    |int o=>grind
    |str o=>grind
    |nil o=>grind
    |slice o=>grind
    |mapnil o=>grind
    |map _ _ o=>grind
    |raw H=>grind[rawT]
 ·simp at h
end
end Go.Ab
namespace Go.Ab
open Go
section
variable{Γ:Ctx}{D:Dom}{ow:Own}{μ:Nat->Nat}{st:List BX}{w:World}
theorem ag7{x:Option SV}{xv:Option Value}{dflt n:Int}(t:∀s v,x=some s->xv=some v->SRep Γ.P D w ow μ st s v)(o:x.isSome=xv.isSome)(h:bnd x dflt=some n):
 (xv=none/\n=dflt)\/∃k,xv=some (.int k n):=by
 unfold bnd at h
 split at h
 ·simp_all
 ·rename_i k m;simp at h;subst h;cases xv with
  |none=>simp at o
  |some v=>have:=t _ v rfl rfl;cases this;grind
 ·simp at h
theorem amh(k:IntKind)(n:Int)(y:Nat)(m:BoundsCode)(o:0<=n)(t:n<=y):(Instr.sliceBound (.int k n) y m).run Γ.P w=.ok n.toNat w:=by simp only[Instr.sliceBound,asIntOf,Sem.run_bind,Sem.run_pure,Result.andThen_ok,o,t,and_self,A8]
theorem ac9(m:Bool)(n cap:Nat)(t o:Option Value)(l h:Int)(U:(t=none/\l=0)\/∃k,t=some (.int k l))(O:(o=none/\h=n)\/∃k,o=some (.int k h))(H:0<=l)(V:l<=h)(W:h<=n)(X:n<=cap):
 (Instr.sliceBounds m n cap t o none).run Γ.P w=.ok (l.toNat,h.toNat,cap) w:=by
 have z:0<=h:=by omega
 have G:h<=(cap:Int):=by omega
 have J:l<=((h.toNat:Nat):Int):=by omega
 have M:l<=((n:Nat):Int):=by omega
 rcases O with⟨rfl,rfl⟩|⟨k,rfl⟩<;>rcases U with⟨rfl,rfl⟩|⟨I,rfl⟩
 ·simp[Instr.sliceBounds]
 ·simp[Instr.sliceBounds,amh (Γ:=Γ) (w:=w) I l n _ H M]
 ·simp[Instr.sliceBounds,amh (Γ:=Γ) (w:=w) k h cap _ z G]
 ·simp only[Instr.sliceBounds,Sem.run_bind,Sem.run_pure,Result.andThen_ok,amh (Γ:=Γ) (w:=w) k h cap _ z G,amh (Γ:=Γ) (w:=w) I l h.toNat _ H J]
theorem ar8(T:TypeId)(x:SV)(xv:Value)(X U:Option SV)(o m:Option Value)(hx:SRep Γ.P D w ow μ st x xv)
 (V:∀s u,X=some s->o=some u->SRep Γ.P D w ow μ st s u) (G:X.isSome=o.isSome) (O:∀s u,U=some s->m=some u->SRep Γ.P D w ow μ st s u) (t:U.isSome=m.isSome)
 {r:Bool×SV} (h:ak9 Γ.P T x X U=some r) (H:r.1=true):∃u,(Instr.sliceAt T xv o m none).run Γ.P w=.ok u w/\SRep Γ.P D w ow μ st r.2 u:=by
 unfold ak9 at h
 split at h
 case h_2=>cases h
 rename_i n E k T' Y
 split at h
 case h_2=>cases h
 rename_i l Z M J
 cases I:(Nat.beq T T'&&aa7 Γ.P E)with
 |false=>grind
 |true=>
  rw[I]at h
  simp only[Ad,Aj]at h
  subst h
  simp only[Ai,aa7,Bool.not_eq_true']at I
  have:=Ag I.1;subst this
  have W:Γ.P.cellsOf E≠0:=λe=>by simp_all
  obtain⟨aa,z,hs⟩:=aay W
  simp only[Ax]at H
  obtain⟨h0,H,h2,h3⟩:=H
  have q1:=ag7 V G M
  have q2:=ag7 O t J
  have hr:=ac9 (Γ:=Γ) (w:=w) false n n o m l Z q1 q2 h0 h2 h3 (Nat.le_refl _)
  cases hx with
  |ref hk hp=>
   simp only[acf,Aj,Prod.mk.injEq]at hp
   obtain⟨rfl,rfl⟩:=hp
   refine⟨.slice (some ⟨μ k,l.toNat*Γ.P.cellsOf E,none⟩) (Z.toNat-l.toNat) (n-l.toNat),?_,.asl hk Y (by omega) (by omega)⟩
   simp only[Instr.sliceAt,Instr.sureAddr,Sem.run_bind,run_underlying Y,Result.andThen_ok,Sem.run_pure,hr,aax z hs]
   rw[if_neg (by omega)]
   simp[abv]
theorem aw4(hw:WRel Γ D ow μ st w)(I J:TypeId)(x:SV)(a:Value)(v:SV)(ha:SRep Γ.P D w ow μ st x a)(h:afp Γ.P st I J x=.val true v):∃u,(convert I J a).run Γ.P w=.ok u w/\SRep Γ.P D w ow μ st v u:=by
 unfold afp at h;split at h;case h_2=>grind[a5c]
 rename_i k H n E;split at h;case h_2=>cases h
 rename_i TB M pv hd X;cases O:(Nat.beq TB M&&awv Γ.P TB E&&ad6 Γ.P I E)with
 |false=>grind
 |true=>
  rw[O]at h;simp only[Ad,Ac.val.injEq,true_and]at h;subst h;simp only[Ai]at O;obtain⟨⟨U,z⟩,t⟩:=O;have:=Ag U;subst this;cases ha with
  |@asl _ _ _ m cap _ aa v2 G W hl hc=>
   rw[X]at G;simp only[Aj,BX.box.injEq]at G;obtain⟨rfl,rfl⟩:=G;obtain⟨o,T',q1,q2,q3,q4,q5⟩:=hw.box k TB _ X;obtain⟨a1,a2,a3,a4,a5⟩:=ape W q5 q2;have V:Γ.P.cellsOf E=1:=by unfold ad6 at t;simp only[Ai]at t;exact Ag t.2
   have ab:Γ.P.cellsOf TB=m:=by unfold awv at z;rw[W]at z;simp only[Ai]at z;grind[Nat.eq_of_beq_eq_true]
   refine⟨_,ag9 (D:=λ_ _=>True) t hd ?_,.str⟩;have Y:((pv.parts.drop H).take n).length=n:=by simp;omega
   have e:=SliceRep.mk (P:=Γ.P) (D:=λ_ _=>True) (w:=w) (E:=E) (b:=μ k) (off:=H*Γ.P.cellsOf E) (cap:=cap) (xs:=(pv.parts.drop H).take n) (L:=(o.drop H).take n) (by omega) (by grind) (λi x Z=>?_) (λj u hj=>⟨trivial,?_⟩)
   ·grind
   ·have hi:i<n:=by grind
    rw[List.getElem?_take_of_lt hi,List.getElem?_drop]at Z;have r:=a5 (H+i) x Z;rw[V,Nat.mul_one]at r ⊢;have e2:(((o.drop H).take n).drop i).take 1=(o.drop (H+i)).take 1:=by grind[List.drop_take,List.drop_drop,Nat.min_eq_left]
    rw[e2];exact r.mono (λ_ _ _=>trivial) (Keeps.refl _ _)
   grind[List.getElem?_eq_some_iff,List.length_take,List.getElem?_take_of_lt,World.cell?]
theorem ars(T:TypeId)(x0:SV)(lo G mx:Option SV)(xv:Value)(t o U:Option Value)(v:SV)(hx:SRep Γ.P D w ow μ st x0 xv)
 (aa:∀s u,lo=some s->t=some u->SRep Γ.P D w ow μ st s u) (I:lo.isSome=t.isSome) (Z:∀s u,G=some s->o=some u->SRep Γ.P D w ow μ st s u) (H:G.isSome=o.isSome) (af:mx.isSome=U.isSome)
 (h:ai2 Γ.P T x0 lo G mx=.val true v):∃u,(Instr.sliceAt T xv t o U).run Γ.P w=.ok u w/\SRep Γ.P D w ow μ st v u:=by
 unfold ai2 at h
 split at h
 ·simp at h
 ·have hm:U=none:=by simpa using af.symm
  subst hm;cases Y:ak9 Γ.P T x0 lo G with
  |some r=>rw[Y]at h;simp only[Ac.val.injEq]at h;obtain⟨h1,rfl⟩:=h;grind[ar8]
  |none=>
  rw[Y]at h;simp only at h;split at h
  ·rename_i s W;split at h
   ·rename_i l m M J;simp only[Ac.val.injEq,Ax]at h;obtain⟨⟨h0,h1,h2⟩,rfl⟩:=h;cases hx;have q1:=ag7 aa I M;have q2:=ag7 Z H J;have ah:(⟨s.toArray⟩:ByteArray).size=s.length:=by show s.toArray.size=_;simp
    have V:=ac9 (Γ:=Γ) (w:=w) false s.length s.length t o l m q1 q2 h0 h1 h2 (Nat.le_refl _);refine⟨_,?_,.str (s:=(s.take m.toNat).drop l.toNat)⟩;simp only[Instr.sliceAt,Sem.run_bind,run_underlying W,Result.andThen_ok,Instr.slice,ah,Option.isSome_none,A3,A9,Sem.run_pure,ByteArray.extract_mk,List.drop_take];rw[V];rfl
   ·simp at h
  ·rename_i x0 _ _ E W;split at h
   ·rename_i xs hl;split at h
    ·rename_i l m M J;cases he:(an0 Γ.P E x0&&!(Nat.beq (Γ.P.cellsOf E) 0))with
     |false=>grind
     |true=>
      rw[he]at h;simp only[Ad,Ac.val.injEq,Ax]at h;obtain⟨⟨h0,h1,h2⟩,rfl⟩:=h;simp only[Ai,Bool.not_eq_true']at he;have ab:Γ.P.cellsOf E≠0:=λe=>by simp_all
      have ag:=anl hx hl he.1;have q1:=ag7 aa I M;have q2:=ag7 Z H J;cases ag with
      |@nil ad cp aj=>
       have e1:m=0:=by grind
       have e2:l=0:=by omega
       subst e1;subst e2;obtain⟨ai,G,hs⟩:=aay ab;have V:=ac9 (Γ:=Γ) (w:=w) true 0 cp t o 0 0 q1 (by simpa using q2) (by omega) (by omega) (by omega) (Nat.zero_le _);refine⟨.slice (if cp=0 then ad else ad.map (·.add (0*Γ.P.cellsOf E))) 0 cp,?_,.slice (.nil λhe=>?_)⟩
       ·simp only[Instr.sliceAt,Sem.run_bind,run_underlying W,Result.andThen_ok,Instr.slice,V,aax G hs];rfl
       ·by_cases hc:cp=0;all_goals simp_all
      |@mk b off cap _ L X hL ae O=>
       obtain⟨ai,G,hs⟩:=aay ab;have V:=ac9 (Γ:=Γ) (w:=w) true xs.length cap t o l m q1 q2 h0 h1 h2 X;have z:((xs.take m.toNat).drop l.toNat).length=m.toNat-l.toNat:=by simp;omega
       by_cases e:cap=l.toNat
       ·have e0:m.toNat-l.toNat=0:=by omega
        have e1:(xs.take m.toNat).drop l.toNat=[]:=A5 (by omega);refine⟨.slice (some ⟨b,off,none⟩) 0 0,?_,?_⟩
        ·simp only[Instr.sliceAt,Sem.run_bind,run_underlying W,Result.andThen_ok,Instr.slice,V,aax G hs,Sem.run_pure,Option.map_some,abv];grind
        ·rw[e1];exact .slice (.mk (xs:=[]) (L:=[]) (by simp) (by simp) (λi y hy=>by simp at hy) (λj v hj=>by simp at hj))
       refine⟨.slice (some ⟨b,off+l.toNat*Γ.P.cellsOf E,none⟩) (m.toNat-l.toNat) (cap-l.toNat),?_,?_⟩
       ·simp only[Instr.sliceAt,Sem.run_bind,run_underlying W,Result.andThen_ok,Instr.slice,V,aax G hs,Sem.run_pure,Option.map_some,abv];rw[if_neg e]
       ·rw[<-z];refine .slice (.mk (L:=(L.drop (l.toNat*Γ.P.cellsOf E)).take ((m.toNat-l.toNat)*Γ.P.cellsOf E)) (by rw[z];omega) ?_ (λi y hy=>?_) (O.sub _ _))
        ·rw[z];have:m.toNat*Γ.P.cellsOf E<=xs.length*Γ.P.cellsOf E:=Au _ (by omega);grind[Nat.sub_mul,List.length_take,List.length_drop]
        ·have ak:i<m.toNat-l.toNat:=by grind
         rw[List.getElem?_drop,List.getElem?_take_of_lt (by omega)]at hy;have:=ae _ _ hy;rw[Nat.add_mul]at this;rw[List.drop_take,List.take_take,Bk,Nat.min_eq_left]
         ·exact this
         ·have h4:(i+1)*Γ.P.cellsOf E<=(m.toNat-l.toNat)*Γ.P.cellsOf E:=Au _ (by omega);grind
    ·simp at h
   ·simp at h
  ·simp at h
theorem a7h(T:TypeId)(x0:SV)(lo W mx:Option SV)(xv:Value)(m G H:Option Value)(r:Bool×SV)(hx:SRep Γ.P D w ow μ st x0 xv)
 (J:∀s u,lo=some s->m=some u->SRep Γ.P D w ow μ st s u) (z:lo.isSome=m.isSome) (ai:W.isSome=G.isSome) (ab:mx.isSome=H.isSome)
 (h:a4f Γ.P T x0 lo W mx=some r) (hr:r.1=true):∃u,(Instr.sliceAt T xv m G H).run Γ.P w=.ok u w/\SRep Γ.P D w ow μ st r.2 u:=by
 unfold a4f at h
 split at h
 ·rename_i E k g E' xs kk l hT;cases V:(Nat.beq E E'&&!(Nat.beq (Γ.P.cellsOf E) 0))with
  |false=>grind
  |true=>
   rw[V]at h;simp only[Ad,Aj]at h;subst h;simp only[Ax]at hr;obtain⟨h0,h1⟩:=hr;simp only[Ai,Bool.not_eq_true']at V;have:=Ag V.1;subst this;have ad:Γ.P.cellsOf E≠0:=λe=>by simp_all
   have hm:H=none:=by simpa using ab.symm
   have hh:G=none:=by simp_all
   subst hm;subst hh;have q1:=ag7 (dflt:=0) (n:=l) J z rfl;obtain⟨ak,W,Y⟩:=aay ad;have hd:(xs.take ((xs.length:Int)).toNat).drop l.toNat=xs.drop l.toNat:=by simp_all
   obtain⟨u,hu,hs⟩:=ars T (.acc k g E xs) (some (.int kk l)) none none xv m none none (.slice E (xs.drop l.toNat)) hx J z (λs u e=>by cases e) rfl rfl (by
    have e1:(Nat.beq E E&&!(Nat.beq (Γ.P.cellsOf E) 0))=true:=by rw[V.2];simp
    simp only[ai2,ak9,hT,an5,bnd,an0,e1,Ad,hd,Ac.val.injEq,and_true,Ax];omega)
   refine⟨u,hu,?_⟩;cases hs with
   |slice hs=>
   cases hx with
   |@acc _ _ g0 _ _ _ O hk Z M=>
    refine .acc hs hk Z (λhg=>?_);have U:∀(a:Option Addr)(n cap:Nat),xv=.slice a n cap->n=xs.length->n<=cap->u=.slice (if cap=l.toNat then a else a.map (·.add (l.toNat*Γ.P.cellsOf E))) (n-l.toNat) (cap-l.toNat):=by intro a n cap ah hn I;subst ah;subst hn;have ae:=ac9 (Γ:=Γ) (w:=w) true xs.length cap m none l xs.length q1 (Or.inl ⟨rfl,rfl⟩) h0 (by omega) (by omega) I;simp only[Instr.sliceAt,Sem.run_bind,run_underlying hT,Result.andThen_ok,Instr.slice,ae,aax W Y,Sem.run_pure,Ae]at hu;grind
    have t:(xs.drop l.toNat).length=xs.length-l.toNat:=Bj;rcases M hg with⟨a,e⟩|⟨gb,off,cap,X,e,h2,h3,h4,h5,h6,h7⟩
    ·subst e;have ag:xs.length=0:=by
      generalize af:Value.slice a 0 0=vv at O;cases O with
      |nil=>rfl
      |mk=>injection af with _ e0 _;exact e0.symm
     have:=U a 0 0 rfl ag.symm (Nat.le_refl _);left;exact⟨_,by rw[this,Nat.zero_sub]⟩
    ·have:=U _ _ _ e rfl h3;by_cases ec:cap=l.toNat
     ·left;rw[if_pos ec]at this;exact⟨_,by rw[this,show xs.length-l.toNat=0 by omega,show cap-l.toNat=0 by omega]⟩
     ·right;rw[if_neg ec,Option.map_some,abv]at this;have aj:l.toNat*Γ.P.cellsOf E+(cap-l.toNat)*Γ.P.cellsOf E=cap*Γ.P.cellsOf E:=by rw[<-Nat.add_mul];congr 1;omega
      have aa:l.toNat*Γ.P.cellsOf E+(xs.length-l.toNat)*Γ.P.cellsOf E=xs.length*Γ.P.cellsOf E:=by rw[<-Nat.add_mul];congr 1;omega
      exact⟨gb,off+l.toNat*Γ.P.cellsOf E,cap-l.toNat,X,by rw[this,t],h2,by omega,by omega,by omega,h6,λo ho=>h7 o (by rw[t]at ho;omega)⟩
 ·cases h
theorem awi{T E:TypeId}{k g:Nat}{l:Int}{xs:List PV}{xv U:Value}{M:IntKind}(Y:SRep Γ.P D w ow μ st (.arr k g E) xv)(G:SRep Γ.P D w ow μ st (.int M l) U)(W:Γ.P.underlying T=some (.slice E))(o:st[k]?=some (.arr E g xs))(H:Γ.P.cellsOf E≠0)(h1:l.toNat=xs.length)(V:0<=l):
 ∃u,(Instr.sliceAt T xv (some U) none none).run Γ.P w=.ok u w/\SRep Γ.P D w ow μ st .undef u:=by
 cases G
 obtain⟨Z,X,t⟩:=aay H
 have O:∀(a:Option Addr)(cap:Nat),xs.length<=cap->xv=.slice a xs.length cap->∃u,(Instr.sliceAt T xv (some (.int M l)) none none).run Γ.P w=.ok u w/\SRep Γ.P D w ow μ st .undef u:=by intro a cap z J;subst J;have I:=ac9 (Γ:=Γ) (w:=w) true xs.length cap (some (.int M l)) none l xs.length (Or.inr ⟨_,rfl⟩) (Or.inl ⟨rfl,rfl⟩) V (by omega) (by omega) z;refine⟨.slice (if cap=l.toNat then a else a.map (·.add (l.toNat*Γ.P.cellsOf E))) (xs.length-l.toNat) (cap-l.toNat),?_,.undef⟩;simp only[Instr.sliceAt,Sem.run_bind,run_underlying W,Result.andThen_ok,Instr.slice,I,aax X t,Sem.run_pure,Ae]
 cases Y with
 |arrOld m hg=>rw[o]at m;cases m;omega
 |arrNil m=>rw[o]at m;cases m;exact O _ 0 (Nat.zero_le _) rfl
 |arr m z=>rw[o]at m;cases m;exact O _ _ z rfl
theorem awh{T E:TypeId}{k g:Nat}{l:Int}{xs:List PV}{xv V:Value}{U:IntKind}(hx:SRep Γ.P D w ow μ st (.arr k g E) xv)(H:SRep Γ.P D w ow μ st (.int U l) V)(Z:Γ.P.underlying T=some (.slice E))(m:st[k]?=some (.arr E g xs))(I:Γ.P.cellsOf E≠0)(X:0<=l)(Y:l<xs.length):
 ∃u,(Instr.sliceAt T xv (some V) none none).run Γ.P w=.ok u w/\SRep Γ.P D w ow μ st (.avw k g l.toNat E) u:=by
 cases H
 cases hx with
 |arrOld o hg=>rw[m]at o;cases o;omega
 |arrNil o=>rw[m]at o;cases o;simp at Y;omega
 |@arr _ _ cap _ _ W o O z t J hs=>
  rw[m]at o;cases o
  obtain⟨aa,hi,G⟩:=aay I
  have M:=ac9 (Γ:=Γ) (w:=w) true xs.length cap (some (.int U l)) none l xs.length (Or.inr ⟨_,rfl⟩) (Or.inl ⟨rfl,rfl⟩) X (by omega) (by omega) O
  refine⟨.slice (some ⟨μ k,l.toNat*Γ.P.cellsOf E,none⟩) (xs.length-l.toNat) (cap-l.toNat),?_,.avw m (by omega) O z t J hs⟩
  simp only[Instr.sliceAt,Sem.run_bind,run_underlying Z,Result.andThen_ok,Instr.slice,M,aax hi G,Sem.run_pure,Option.map_some,abv,Ae,Nat.zero_add]
  rw[if_neg (by omega)]
theorem baq(X:WRel Γ D ow μ st w)(T:TypeId)(x:SV)(xv:Value)(v:SV)(z:SRep Γ.P D w ow μ st x xv)(h:au7 Γ.P T st x=.val true v)(Y:TypeId):
 ∃u,(Builtin.len_ #[T] Y #[xv]).run Γ.P w=.ok u w/\SRep Γ.P D w ow μ st v u:=by
 unfold au7 at h
 split at h
 ·rename_i s m;simp only[Ac.val.injEq,true_and]at h;subst h;cases z;have I:(⟨s.toArray⟩:ByteArray).size=s.length:=by show s.toArray.size=_;simp
  exact⟨.int .i64 s.length,by simp[Builtin.len_,run_underlying m,goInt,I],.int⟩
 ·rename_i E G xs m;simp only[Ac.val.injEq,true_and]at h;subst h;cases z with
  |slice J=>cases J<;>exact⟨_,by simp[Builtin.len_,run_underlying m,goInt],.int⟩
 ·rename_i E k g G xs m;simp only[Ac.val.injEq,true_and]at h;subst h;cases z with
  |acc J=>cases J<;>exact⟨_,by simp[Builtin.len_,run_underlying m,goInt],.int⟩
 ·rename_i E G xs m;simp only[Ac.val.injEq,true_and]at h;subst h;cases z with
  |lit J=>exact⟨_,by simp[Builtin.len_,run_underlying m,goInt],.int⟩
 ·rename_i E m;simp only[Ac.val.injEq,true_and]at h;subst h;cases z;exact⟨_,by simp[Builtin.len_,run_underlying m,goInt],.int⟩
 ·rename_i E k g G m;split at h
  ·rename_i xs H;have t:=ab1 H;simp only[Ac.val.injEq,true_and]at h;subst h;cases z with
   |arrOld o V=>rw[t]at o;cases o;omega
   |arrNil o=>rw[t]at o;cases o;exact⟨_,by simp[Builtin.len_,run_underlying m,goInt],.int⟩
   |arr o=>rw[t]at o;cases o;exact⟨_,by simp[Builtin.len_,run_underlying m,goInt],.int⟩
  ·cases h
 ·rename_i E k g lo G m;split at h
  ·rename_i xs H;have t:=ab1 H;simp only[Ac.val.injEq,true_and]at h;subst h;cases z with
   |avwOld o V=>rw[t]at o;cases o;omega
   |avw o=>rw[t]at o;cases o;exact⟨_,by simp[Builtin.len_,run_underlying m,goInt],.int⟩
  ·cases h
 ·rename_i K E M G es m;simp only[Ac.val.injEq,true_and]at h;subst h;cases z with
  |map J=>
   cases J with
   |nil=>exact⟨_,by simp[Builtin.len_,run_underlying m,goInt],.int⟩
   |mk kc vc W Z I=>exact⟨.int .i64 es.length,by simp[Builtin.len_,run_underlying m,goInt,getObj,Sem.run,W,I],.int⟩
 ·rename_i K E k m;split at h
  ·rename_i M G es o;simp only[Ac.val.injEq,true_and]at h;subst h;cases z;obtain⟨ents,clock,kc,vc,O,_,_,U,_⟩:=X.map k M G es o;exact⟨.int .i64 es.length,by simp[Builtin.len_,run_underlying m,goInt,getObj,Sem.run,O,U],.int⟩
  ·simp at h
 ·simp at h
theorem az1(S:TypeId)(i:Nat)(a:SV)(av:Value)(v:SV)(ha:SRep Γ.P D w ow μ st a av)(h:akn Γ.P S i a=.val true v):
 ∃u,(Instr.field S av i).run Γ.P w=.ok u w/\SRep Γ.P D w ow μ st v u:=by
 unfold akn at h
 split at h
 ·rename_i fs o;split at h
  ·rename_i f H;cases O:(acs Γ.P S&&aa7 Γ.P f.type)with
   |false=>rw[O]at h;simp at h
   |true=>
    rw[O]at h;simp only[Ad]at h;simp only[Ai,aa7,Bool.not_eq_true',A7]at O;obtain⟨V,⟨ab,W⟩,X⟩:=O;have V:=act V (abj o);have key:∀cs:List Value,cs.length=Γ.P.cellsOf S->(Instr.field S (.agg cs.toArray) i).run Γ.P w=.ok (pack Γ.P f.type ((cs.drop f.offset).take (Γ.P.cellsOf f.type))) w:=by intro cs hl;have hp:=av4 W cs f.offset (by rw[hl];exact V.inside i f H) (X.imp id Ag) w;simp only[Instr.field,Sem.run_bind,run_underlying o,Result.andThen_ok,H,asAgg,Sem.run_pure];exact hp
    split at h
    ·rename_i T pv;cases t:Nat.beq S T with
     |false=>rw[t]at h;simp at h
     |true=>
      rw[t]at h;simp only[Ad,Ac.val.injEq,true_and]at h;have:=Ag t;subst this;subst h;cases ha with
      |@data _ _ cs G hr=>
       refine⟨_,key cs (hr.aggLen G),?_⟩;cases hr with
       |@agg _ U vs _ m I Z J z=>
        rw[o]at m;cases m;have Y:i<vs.length:=by rw[J];exact(Array.getElem?_eq_some_iff.1 H).1
        have M:vs[i]?=some vs[i]:=Ap Y;rw[auw M];exact(z i vs[i] f M H).ofPV
       |arr m=>rw[o]at m;cases m
       |bool m=>rw[o]at m;cases m
       |int m=>rw[o]at m;cases m
       |str m=>rw[o]at m;cases m
       |nil m=>rw[o]at m;cases m
       |slice m=>rw[o]at m;cases m
       |mapnil m=>rw[o]at m;cases m
       |map _ _ m=>rw[o]at m;cases m
       |raw z=>simp[rawT,o]at z
    ·rename_i T vs;cases t:Nat.beq S T with
     |false=>rw[t]at h;simp at h
     |true=>
      rw[t]at h;simp only[Ad]at h;have:=Ag t;subst this;split at h
      ·rename_i x hx;simp only[Ac.val.injEq,true_and]at h;subst h;cases ha with
       |@agg _ U _ cs m I Z J aa=>rw[abj o]at m;cases m;exact⟨_,key cs I,aa i _ f hx H⟩
      ·simp at h
    ·simp at h
  ·simp at h
 ·simp at h
end
end Go.Ab
