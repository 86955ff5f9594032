/- Operations that read memory. -/
import Derived.Test.YthokbeimbdnnoaaGreatDoorAbAct
set_option linter.unusedVariables false
set_option linter.unusedSimpArgs false
set_option linter.unnecessarySimpa false
namespace Go.Ab
open Go
theorem adm {P:Program}{T:TypeId} (o:(P.underlying T).isSome=true) (w:World) (b off:Nat) (cs:List Value) (z:∀ j v,cs[j]?=some v->w.cell? ⟨b,off+j,none⟩=some v)
 (J:aak P T=true->cs.length=P.cellsOf T) (I:aak P T=false->∃ u,cs=[u]):(loadVar T ⟨b,off,none⟩).run P w=.ok (pack P T cs) w:=by
 unfold loadVar
 simp only [Sem.run_bind,aj1 o,Result.andThen_ok]
 cases h:aak P T with
 | true=>
  obtain ⟨d,M⟩:=Option.isSome_iff_exists.1 o
  obtain ⟨i,O,hs⟩:=ait M
  have H:=run_loadCells_list (P:=P) w ⟨b,off,none⟩ cs (λj v Z=>by rw [ab6];exact z j v Z)
  rw [J h] at H
  simp only [Ba,Sem.run_bind,aa3 O hs,Result.andThen_ok,H,pack,h]
  rfl
 | false=>
  obtain ⟨u,rfl⟩:=I h
  have:=z 0 u rfl
  simp only [Nat.add_zero] at this
  simp [this,pack,h]
section
variable {Γ:Ctx}{D:Dom}{ow:Own}{μ:Nat->Nat}{st:List BX}{w:World}
theorem Rep.single {P:Program}{T:TypeId}{v:PV}{cs:List Value} (h:Rep P D w T v cs) (z:aak P T=false):∃ u,cs=[u]:=by
 cases h with
 | agg o=>simp [aak,o] at z
 | arr o=>simp [aak,o] at z
 | _=>exact ⟨_,rfl⟩
theorem a1k {o:Type}{l:List o}{i:Nat}{d:o} (h:i<l.length):l[i]?=some (l.getD i d):=by simp [List.getD,Aq h]
theorem alc {P:Program}{TB E:TypeId}{n:Nat}{J:PV}{z:List Value} (H:P.underlying TB=some (.array n E)) (h:SRep P D w ow μ st (.data TB J) (pack P TB z)) (hl:z.length=P.cellsOf TB):
 J=.agg J.parts/\J.parts.length=n/\z.length=P.cellsOf TB/\(∀ c,c∈z->c.oneCell'=true)/\∀ (i:Nat) (x:PV),J.parts[i]?=some x->Rep P D w E x ((z.drop (i*P.cellsOf E)).take (P.cellsOf E)):=by
 have O:aak P TB=true:=by simp [aak,H]
 simp only [pack,O,Ba] at h
 generalize M:Value.agg z.toArray=v at h
 cases h with
 | data _ Z=>
  simp only [Value.agg.injEq] at M
  have I:=congrArg Array.toList M
  simp only [List.toList_toArray] at I
  subst I
  cases Z with
  | agg o=>rw [H] at o;cases o
  | arr o l1 o1 v1 r1=>rw [H] at o;cases o;exact ⟨rfl,v1,l1,o1,r1⟩
  | raw o=>simp [rawT,H] at o
  | bool o=>rw [H] at o;cases o
  | int o=>rw [H] at o;cases o
  | str o=>rw [H] at o;cases o
  | nil o=>rw [H] at o;cases o
  | slice o=>rw [H] at o;cases o
  | mapnil o=>rw [H] at o;cases o
  | map _ _ o=>rw [H] at o;cases o
theorem adb {k g:Nat}{E:TypeId}{xs:List PV} (h:agh st k g E=some xs):st[k]?=some (.arr E g xs):=by
 unfold agh at h;split at h
 ·rename_i z H xs' I;cases o:(Nat.beq g H&&Nat.beq E z) with
  | false=>rw [o] at h;cases h
  | true=>rw [o] at h;simp only [Af,Al] at h;subst h;simp only [Ai] at o;rw [I,Aa o.1,Aa o.2]
 ·cases h
theorem at3 (hw:WRel Γ D ow μ st w) {k g i:Nat}{E:TypeId}{xs:List PV}{cur:Array Value} (hk:st[k]?=some (.arr E g xs)) (J:i<xs.length) (hc:w.heap[μ k]?=some (.cells cur E (0,0))):
 (i+1)*Γ.P.cellsOf E<=cur.size/\(∀ o,¬D (μ k) o)/\Rep Γ.P D w E (xs.getD i .bad) ((cur.toList.drop (i*Γ.P.cellsOf E)).take (Γ.P.cellsOf E)):=by
 rcases hw.obj k _ hk with h | ⟨H,I,h2,M,O,Z⟩
 ·subst h;simp at J
 ·rw [hc] at I;cases I;have z:xs[i]?=some xs[i]:=Aq J;have hd:xs.getD i PV.bad=xs[i]:=by simp [List.getD,z]
  refine ⟨Nat.le_trans (Ay _ (by omega)) O,M,?_⟩;rw [hd];exact Z i _ z
theorem av8 (hw:WRel Γ D ow μ st w) (T:TypeId) (a:SV) (ad:Value) (v:SV) (H:SRep Γ.P D w ow μ st a ad) (h:acj Γ.P T st a=.val true v):
 ∃ u,(Instr.loadAt T ad).run Γ.P w=.ok u w/\SRep Γ.P D w ow μ st v u:=by
 unfold acj at h
 split at h
 ·rename_i T' pv;cases o:(Nat.beq T T'&&(Γ.P.underlying T).isSome) with
  | false=>rw [o] at h;simp at h
  | true=>
   rw [o] at h;simp only [Ai] at o;have:=Aa o.1;subst this;simp only [Af,Ac.val.injEq,true_and] at h;subst h;cases H with
   | @pto _ _ b off cs hh hr=>refine ⟨_,?_,hr.ofPV⟩;simp only [Instr.loadAt,Instr.sureAddr,Sem.run_bind,Sem.run_pure,Result.andThen_ok];exact adm o.2 w b off cs (λj v I=>(hh j v I).2) (λH=>hr.aggLen H) (λH=>hr.single H)
 ·rename_i k path T';cases o:(Nat.beq T T'&&(Γ.P.underlying T).isSome) with
  | false=>rw [o] at h;simp at h
  | true=>
   rw [o] at h;simp only [Ai] at o;have:=Aa o.1;subst this;simp only [Af] at h;cases H with
   | @ref _ _ _ TB s off J hp=>
    rw [J] at h;simp only at h;cases h1:(aak Γ.P T||Nat.beq (Γ.P.cellsOf T) 1) with
    | false=>rw [h1] at h;simp at h
    | true=>
     rw [h1] at h;simp only [Af] at h;cases O:agy Γ.P TB s path with
     | none=>rw [O] at h;simp at h
     | some x=>
      rw [O] at h;simp only [Ac.val.injEq,true_and] at h;subst h;obtain ⟨z,T',q1,q2,q3,q4,q5⟩:=hw.box k TB s J;obtain ⟨r1,r2⟩:=ais path TB s z off T x q5 q2 hp O;refine ⟨_,?_,r1⟩;have Z:((z.drop off).take (Γ.P.cellsOf T)).length=Γ.P.cellsOf T:=by simp;omega
      simp only [Instr.loadAt,Instr.sureAddr,Sem.run_bind,Sem.run_pure,Result.andThen_ok];refine adm o.2 w (μ k) off _ (λj v I=>?_) (λ_=>Z) (λH=>?_)
      ·have ab:j<Γ.P.cellsOf T:=by have:=(List.getElem?_eq_some_iff.1 I).1;omega
       rw [List.getElem?_take_of_lt ab,List.getElem?_drop] at I;simp [World.cell?,q1,I]
      ·rw [H] at h1;simp at h1;rw [h1] at Z ⊢;match (z.drop off).take 1,Z with
       | [u],_=>exact ⟨u,rfl⟩
 ·rename_i k i E;cases o:(Nat.beq T E&&aa1 Γ.P E) with
  | false=>rw [o] at h;cases h
  | true=>
   rw [o] at h;simp only [Af] at h;simp only [Ai,aa1] at o;have:=Aa o.1;subst this;cases H with
   | @eref _ _ n _ TB s J hT hi=>
    rw [J] at h;split at h;case h_2=>cases h
    rename_i al ae pv he;cases he;cases hc:(Nat.beq TB ae&&ap3 Γ.P TB T) with
    | false=>rw [hc] at h;cases h
    | true=>
     rw [hc] at h;simp only [Af,Ac.val.injEq,true_and] at h;subst h;simp only [Ai] at hc;have:=Aa hc.1;subst this;obtain ⟨z,T',q1,q2,q3,q4,q5⟩:=hw.box k TB _ J;obtain ⟨a1,a2,a3,a4,a5⟩:=alc hT q5 q2;have ak:pv.parts[i]?=some (pv.fld i):=by unfold PV.fld;rw [a1k (by omega)]
     have hr:=a5 i _ ak;refine ⟨_,?_,hr.ofPV⟩;simp only [Instr.loadAt,Instr.sureAddr,Sem.run_bind,Sem.run_pure,Result.andThen_ok];refine adm o.2.1.2 w (μ k) _ _ (λj v I=>?_) (λH=>hr.aggLen H) (λH=>hr.single H);have aj:j<Γ.P.cellsOf T:=by have:=(List.getElem?_eq_some_iff.1 I).1;rw [List.length_take] at this;omega
     rw [List.getElem?_take_of_lt aj,List.getElem?_drop] at I;simp [World.cell?,q1,I]
 ·rename_i k g i E path T';cases o:(Nat.beq T T'&&aa1 Γ.P E&&aa1 Γ.P T) with
  | false=>rw [o] at h;cases h
  | true=>
   rw [o] at h;simp only [Af] at h;simp only [Ai,aa1,Bool.not_eq_true',Bd] at o;obtain ⟨⟨ag,⟨am,an⟩,ao⟩,⟨ap,ah⟩,ai⟩:=o;have:=Aa ag;subst this;split at h;case h_2=>cases h
   rename_i xs af;have aa:=adb af;cases H with
   | arefOld J O=>rw [aa] at J;cases J;omega
   | @aref _ _ _ off _ _ _ aq cur J hi hp hc ho=>
    rw [aa] at J;cases J;obtain ⟨a1,a2,a3⟩:=at3 hw aa hi hc;cases O:agy Γ.P E (ofPV Γ.P E (xs.getD i .bad)) path with
    | none=>rw [O] at h;cases h
    | some x=>
     rw [O] at h;simp only [Ac.val.injEq,true_and] at h;subst h;have M:((cur.toList.drop (i*Γ.P.cellsOf E)).take (Γ.P.cellsOf E)).length=Γ.P.cellsOf E:=by rw [Nat.add_mul] at a1;simp;omega
     obtain ⟨r1,r2⟩:=ais (ow:=ow) (μ:=μ) (st:=st) path E _ _ off T x a3.ofPV M hp O;refine ⟨_,?_,r1⟩;simp only [Instr.loadAt,Instr.sureAddr,Sem.run_bind,Sem.run_pure,Result.andThen_ok];rw [M] at r2;have Z:(((cur.toList.drop (i*Γ.P.cellsOf E)).take (Γ.P.cellsOf E)).drop off |>.take (Γ.P.cellsOf T)).length=Γ.P.cellsOf T:=by rw [List.length_take,Be,M];omega
     refine adm ah w (μ k) _ _ (λj v I=>?_) (λ_=>Z) (λH=>?_)
     ·have ab:j<Γ.P.cellsOf T:=by have:=(List.getElem?_eq_some_iff.1 I).1;omega
      rw [List.getElem?_take_of_lt ab,List.getElem?_drop,List.getElem?_take_of_lt (by omega),List.getElem?_drop] at I;simp only [World.cell?,hc];rw [Nat.add_assoc];simpa using I
     ·rcases ai with h7 | h7
      ·rw [H] at h7;cases h7
      ·have h7:=Aa h7;generalize (((cur.toList.drop (i*Γ.P.cellsOf E)).take (Γ.P.cellsOf E)).drop off |>.take (Γ.P.cellsOf T))=l at Z ⊢;rw [h7] at Z;match l,Z with
       | [u],_=>exact ⟨u,rfl⟩
 ·simp at h
theorem akj {P:Program}:∀ (path:List Nat) (TB:TypeId) (off:Nat) (S:TypeId) (i:Nat) (z:Array Field) (f:Field),abv P TB path=some (off,S)->P.underlying S=some (.struct z)->z[i]?=some f->
 abv P TB (path++[i])=some (off+f.offset,f.type):=by
 intro path
 induction path with
 | nil=>
  intro TB off S i z f h I J
  simp [abv] at h
  obtain ⟨rfl,rfl⟩:=h
  simp [abv,I,J]
 | cons j p ih=>
  intro TB off S i z f h I J
  unfold abv at h
  cases H:P.underlying TB with
  | none=>rw [H] at h;simp at h
  | some d=>
   cases d with
   | struct Z=>
    rw [H] at h
    simp only at h
    cases M:Z[j]? with
    | none=>rw [M] at h;simp at h
    | some g=>
     rw [M] at h
     simp only at h
     cases O:abv P g.type p with
     | none=>rw [O] at h;simp at h
     | some r=>
      obtain ⟨o,t⟩:=r
      rw [O] at h
      simp at h
      obtain ⟨rfl,rfl⟩:=h
      have:=ih g.type o t i z f O I J
      simp only [Bm,abv,H,M,this,Option.map_some,Nat.add_assoc]
   | _=>rw [H] at h;simp at h
theorem Held.sub {b off:Nat}{cs:List Value} (h:Held D w b off cs) (o n:Nat):Held D w b (off+o) ((cs.drop o).take n):=by
 intro j v z;by_cases H:j<n
 ·rw [List.getElem?_take_of_lt H,List.getElem?_drop] at z;have:=h _ v z;rwa [Nat.add_assoc]
 ·rw [A4 (by simp;omega)] at z;cases z
theorem alq (S:TypeId) (i:Nat) (a:SV) (ad:Value) (v:SV) (ha:SRep Γ.P D w ow μ st a ad) (h:acp Γ.P st S i a=.val true v):
 ∃ u,(Instr.fieldAt S ad i).run Γ.P w=.ok u w/\SRep Γ.P D w ow μ st v u:=by
 unfold acp at h
 split at h
 ·rename_i fs I;split at h
  ·rename_i f J;cases Z:Nat.beq (Γ.P.cellsOf f.type) 0 with
   | true=>rw [Z] at h;simp at h
   | false=>
    rw [Z] at h;simp only [Ah] at h;have aa:Γ.P.cellsOf f.type≠0:=λe=>by rw [e] at Z;cases Z
    obtain ⟨aj,hi,hs⟩:=aa5 aa;have z:∀ b off:Nat,(fieldPlace ⟨b,off,none⟩ f).run Γ.P w=.ok ⟨b,off+f.offset,none⟩ w:=by intro b off;simp [fieldPlace,aa3 hi hs,aa,ab6]
    split at h
    ·rename_i T pv;cases H:Nat.beq S T with
     | false=>rw [H] at h;simp at h
     | true=>
      rw [H] at h;simp only [Af,Ac.val.injEq,true_and] at h;have:=Aa H;subst this;subst h;cases ha with
      | @pto _ _ b off cs hh hr=>
       refine ⟨.pointer (some ⟨b,off+f.offset,none⟩),by simp [Instr.fieldAt,run_underlying I,J,Instr.sureAddr,z],?_⟩;cases hr with
       | @agg _ ag vs _ o ah ai af O=>
        rw [I] at o;cases o;have ae:i<vs.length:=by rw [af];exact (Array.getElem?_eq_some_iff.1 J).1
        have ab:vs[i]?=some vs[i]:=Aq ae;rw [aou ab];exact .pto (hh.sub _ _) (O i vs[i] f ab J)
       | arr o=>rw [I] at o;cases o
       | bool o=>rw [I] at o;cases o
       | int o=>rw [I] at o;cases o
       | str o=>rw [I] at o;cases o
       | nil o=>rw [I] at o;cases o
       | slice o=>rw [I] at o;cases o
       | mapnil o=>rw [I] at o;cases o
       | map _ _ o=>rw [I] at o;cases o
       | raw O=>simp [rawT,I] at O
    ·rename_i k path T;cases H:Nat.beq S T with
     | false=>rw [H] at h;simp at h
     | true=>
      rw [H] at h;simp only [Af,Ac.val.injEq,true_and] at h;have:=Aa H;subst this;subst h;cases ha with
      | @ref _ _ _ TB s off M hp=>refine ⟨.pointer (some ⟨μ k,off+f.offset,none⟩),by simp [Instr.fieldAt,run_underlying I,J,Instr.sureAddr,z],?_⟩;exact .ref M (akj path TB off S i fs f hp I J)
    ·rename_i k T;cases H:(Nat.beq S T&&Nat.beq f.offset 0) with
     | false=>rw [H] at h;simp at h
     | true=>
      rw [H] at h;simp only [Af,Ac.val.injEq,true_and] at h;simp only [Ai] at H;have Z:=Aa H.2;subst h;cases ha with
      | bref M=>refine ⟨.pointer (some ⟨μ k,0+f.offset,none⟩),by simp [Instr.fieldAt,run_underlying I,J,Instr.sureAddr,z],?_⟩;rw [Z];exact .bref M
    ·rename_i k g j E path T;cases H:(Nat.beq S T&&aek st k g) with
     | false=>rw [H] at h;simp at h
     | true=>
      rw [H] at h;simp only [Af,Ac.val.injEq,true_and] at h;simp only [Ai] at H;have:=Aa H.1;subst this;subst h;cases ha with
      | arefOld M hg h1=>have h2:=H.2;unfold aek at h2;rw [M] at h2;have:=Aa h2;omega
      | @aref _ _ _ off _ _ _ xs cur M hi hp hc ho=>refine ⟨.pointer (some ⟨μ k,j*Γ.P.cellsOf E+off+f.offset,none⟩),by simp [Instr.fieldAt,run_underlying I,J,Instr.sureAddr,z],?_⟩;rw [Nat.add_assoc];exact .aref M hi (akj path E off S i fs f hp I J) hc ho
    ·simp at h
  ·simp at h
 ·simp at h
theorem aj3 {E:TypeId}{x:SV}{v:Value}{xs:List PV} (z:SRep Γ.P D w ow μ st x v) (o:al0 x=some xs) (H:alo Γ.P E x=true):SliceRep Γ.P D w E xs v:=by
 unfold al0 at o;split at o
 ·cases o;cases z with | slice h=>have:=Aa H;subst this;exact h
 ·cases o;cases z with | acc h=>have:=Aa H;subst this;exact h
 ·cases o;cases z with | lit h=>have:=Aa H;subst this;exact h
 ·cases o;cases z with | sln h=>have:=Aa H;subst this;exact h
 ·cases o;cases z;exact .nil λ_=>rfl
 ·simp at o
theorem aoe (T:TypeId) (x i:SV) (xv Z:Value) (hx:SRep Γ.P D w ow μ st x xv) (hi:SRep Γ.P D w ow μ st i Z) {r:Bool×SV} (h:alb Γ.P T x i=some r) (h1:r.1=true):
 ∃ u,(Instr.indexAt T xv Z).run Γ.P w=.ok u w/\SRep Γ.P D w ow μ st r.2 u:=by
 unfold alb at h
 split at h
 case h_2=>cases h
 rename_i n E k T' ki o J
 cases z:(Nat.beq T T'&&aa1 Γ.P E) with
 | false=>rw [z] at h;cases h
 | true=>
  rw [z] at h
  simp only [Af,Al] at h
  subst h
  simp only [Ai,aa1,Bool.not_eq_true'] at z
  have:=Aa z.1;subst this
  have I:Γ.P.cellsOf E≠0:=λe=>by have:=z.2.1.1;rw [e] at this;cases this
  obtain ⟨aa,H,hs⟩:=aa5 I
  have O:0<=o/\o<(n:Int):=by simpa [aaa] using h1
  cases hi
  cases hx with
  | ref hk M=>
   simp only [abv,Al,Prod.mk.injEq] at M
   obtain ⟨rfl,rfl⟩:=M
   refine ⟨.pointer (some ⟨μ k,o.toNat*Γ.P.cellsOf E,none⟩),?_,.eref hk J (by omega)⟩
   simp [Instr.indexAt,asIntOf,Instr.sureAddr,run_underlying J,O.1,O.2,aa3 H hs,ab6]
theorem apk (T:TypeId) (x i:SV) (xv Z:Value) (hx:SRep Γ.P D w ow μ st x xv) (hi:SRep Γ.P D w ow μ st i Z) {r:Bool×SV} (h:af3 Γ.P T st x i=some r) (h1:r.1=true):
 ∃ u,(Instr.indexAt T xv Z).run Γ.P w=.ok u w/\SRep Γ.P D w ow μ st r.2 u:=by
 unfold af3 at h
 split at h
 case h_2=>cases h
 rename_i E k g E' ki n hT
 split at h
 case h_2=>cases h
 rename_i xs J
 have o:=adb J
 cases H:(Nat.beq E E'&&aa1 Γ.P E) with
 | false=>rw [H] at h;cases h
 | true=>
  rw [H] at h
  simp only [Af,Al] at h
  subst h
  simp only [Ai,aa1,Bool.not_eq_true'] at H
  have:=Aa H.1;subst this
  have M:Γ.P.cellsOf E≠0:=λe=>by have:=H.2.1.1;rw [e] at this;cases this
  obtain ⟨ad,I,hs⟩:=aa5 M
  have O:0<=n/\n<(xs.length:Int):=by simpa [aaa] using h1
  cases hi
  cases hx with
  | arrOld z hg=>rw [o] at z;cases z;omega
  | arrNil z=>rw [o] at z;cases z;simp at O;omega
  | arr z hl aa hc ho ab=>
   rw [o] at z;cases z
   refine ⟨.pointer (some ⟨μ k,0+n.toNat*Γ.P.cellsOf E,none⟩),?_,?_⟩
   ·simp [Instr.indexAt,asIntOf,run_underlying hT,O.1,O.2,aa3 I hs,ab6]
   ·have:=SRep.aref (P:=Γ.P) (D:=D) (w:=w) (ow:=ow) (μ:=μ) (st:=st) (i:=n.toNat) (off:=0) (T:=E) (path:=[]) o (by omega) rfl hc ho;rw [Nat.zero_add];simpa using this
theorem alu (T:TypeId) (x i:SV) (xv iv:Value) (v:SV) (hx:SRep Γ.P D w ow μ st x xv) (hi:SRep Γ.P D w ow μ st i iv) (h:acr Γ.P T st x i=.val true v):
 ∃ u,(Instr.indexAt T xv iv).run Γ.P w=.ok u w/\SRep Γ.P D w ow μ st v u:=by
 unfold acr at h
 cases o:alb Γ.P T x i with
 | some r=>
  rw [o] at h
  simp only [Ac.val.injEq] at h
  obtain ⟨J,rfl⟩:=h
  exact aoe T x i xv iv hx hi o J
 | none=>
 rw [o] at h
 simp only at h
 cases z:af3 Γ.P T st x i with
 | some r=>
  rw [z] at h
  simp only [Ac.val.injEq] at h
  obtain ⟨J,rfl⟩:=h
  exact apk T x i xv iv hx hi z J
 | none=>
 rw [z] at h
 simp only at h
 split at h
 ·rename_i E xs k n hT hl;cases I:(alo Γ.P E x&&!(Nat.beq (Γ.P.cellsOf E) 0)) with
  | false=>rw [I] at h;simp at h
  | true=>
   rw [I] at h;simp only [Af,Ac.val.injEq] at h;obtain ⟨J,rfl⟩:=h;simp only [Ai,Bool.not_eq_true'] at I;have ab:Γ.P.cellsOf E≠0:=λe=>by rw [e] at I;cases I.2
   obtain ⟨af,M,hs⟩:=aa5 ab;have ad:=aj3 hx hl I.1;have hr:0<=n/\n<(xs.length:Int):=by simpa [aaa] using J
   cases hi;cases ad with
   | nil=>simp at hr;omega
   | @mk b off cap _ L ae hL O H=>
    have aa:n.toNat<xs.length:=by omega
    have Z:xs[n.toNat]?=some xs[n.toNat]:=Aq aa;have hd:xs.getD n.toNat PV.bad=xs[n.toNat]:=by simp [List.getD,Z]
    refine ⟨.pointer (some ⟨b,off+n.toNat*Γ.P.cellsOf E,none⟩),?_,?_⟩
    ·simp [Instr.indexAt,asIntOf,run_underlying hT,hr.1,hr.2,aa3 M hs,ab6]
    ·rw [hd];exact .pto (H.sub _ _) (O _ _ Z)
 ·simp at h
theorem asu (T:TypeId) (x i:SV) (xv iv:Value) (v:SV) (hx:SRep Γ.P D w ow μ st x xv) (hi:SRep Γ.P D w ow μ st i iv) (h:aie Γ.P T x i=.val true v):
 ∃ u,(Instr.index T xv iv).run Γ.P w=.ok u w/\SRep Γ.P D w ow μ st v u:=by
 unfold aie at h
 split at h
 ·rename_i s k n z;simp only [Ac.val.injEq] at h;obtain ⟨h1,rfl⟩:=h;have hr:0<=n/\n<(s.length:Int):=by simpa [aaa] using h1
  cases hx;cases hi;have H:n.toNat<s.length:=by omega
  have e:(⟨s.toArray⟩:ByteArray)[n.toNat]?=some s[n.toNat]:=by rw [ByteArray.getElem?_lt' _ _ (by show n.toNat<s.toArray.size;simpa using H)];rfl
  have hd:s.getD n.toNat 0=s[n.toNat]:=by simp [List.getD,Aq H]
  refine ⟨_,by simp [Instr.index,asIntOf,run_underlying z,hr.1,e];rfl,?_⟩;rw [hd];exact .int
 ·rename_i m E T' pv k n z;cases hb:(Nat.beq T T'&&aa1 Γ.P E&&Nat.beq (Γ.P.cellsOf T) (m*Γ.P.cellsOf E)) with
  | false=>rw [hb] at h;simp at h
  | true=>
   rw [hb] at h;simp only [Af,Ac.val.injEq] at h;obtain ⟨h1,rfl⟩:=h;simp only [Ai,aa1,Bool.not_eq_true',Bd] at hb;obtain ⟨⟨ab,⟨J,ad⟩,ae⟩,af⟩:=hb;have:=Aa ab;subst this;have ah:Γ.P.cellsOf E≠0:=λe=>by rw [e] at J;cases J
   obtain ⟨am,O,hs⟩:=aa5 ah;have ai:=Aa af;have hr:0<=n/\n<(m:Int):=by simpa [aaa] using h1
   cases hi;cases hx with
   | @data _ _ cs aj Z=>
    cases Z with
    | @arr _ E2 m2 vs _ o ag ak al I=>
     rw [z] at o;cases o;have H:n.toNat<vs.length:=by omega
     have aa:vs[n.toNat]?=some vs[n.toNat]:=Aq H;have M:n.toNat*Γ.P.cellsOf E+Γ.P.cellsOf E<=cs.length:=by rw [ag,ai];have:(n.toNat+1)*Γ.P.cellsOf E<=m*Γ.P.cellsOf E:=Ay _ (by omega);rw [Nat.add_mul] at this;omega
     have hp:=apl ad cs (n.toNat*Γ.P.cellsOf E) M (ae.imp id Aa) w;refine ⟨pack Γ.P E ((cs.drop (n.toNat*Γ.P.cellsOf E)).take (Γ.P.cellsOf E)),?_,?_⟩
     ·simp only [Instr.index,asIntOf,Sem.run_bind,Sem.run_pure,Result.andThen_ok,run_underlying z];simp only [hr.1,hr.2,and_self,Ba,Sem.run_bind,aa3 O hs,Result.andThen_ok];rw [hp]
     ·rw [aou aa];exact (I _ _ aa).ofPV
    | agg o=>rw [z] at o;cases o
    | bool o=>rw [z] at o;cases o
    | int o=>rw [z] at o;cases o
    | str o=>rw [z] at o;cases o
    | nil o=>rw [z] at o;cases o
    | slice o=>rw [z] at o;cases o
    | mapnil o=>rw [z] at o;cases o
    | map _ _ o=>rw [z] at o;cases o
    | raw I=>simp [rawT,z] at I
 ·simp at h
end
end Go.Ab
namespace Go.Ab
open Go
section
variable {Γ:Ctx}{D:Dom}{ow:Own}{μ:Nat->Nat}{st:List BX}{w:World}
theorem ahf {x:Option SV}{xv:Option Value}{dflt n:Int} (z:∀ s v,x=some s->xv=some v->SRep Γ.P D w ow μ st s v) (o:x.isSome=xv.isSome) (h:bnd x dflt=some n):
 (xv=none/\n=dflt)\/∃ k,xv=some (.int k n):=by
 unfold bnd at h
 split at h
 ·simp at o;simp at h;exact Or.inl ⟨o,h.symm⟩
 ·rename_i k m;simp at h;subst h;cases xv with
  | none=>simp at o
  | some v=>have:=z _ v rfl rfl;cases this;exact Or.inr ⟨k,rfl⟩
 ·simp at h
theorem ajb (k:IntKind) (n:Int) (y:Nat) (h:BoundsCode) (o:0<=n) (z:n<=y):(Instr.sliceBound (.int k n) y h).run Γ.P w=.ok n.toNat w:=by simp only [Instr.sliceBound,asIntOf,Sem.run_bind,Sem.run_pure,Result.andThen_ok,o,z,and_self,Ba]
theorem aht (o:Bool) (n cap:Nat) (H z:Option Value) (l h:Int) (hl:(H=none/\l=0)\/∃ k,H=some (.int k l)) (hh:(z=none/\h=n)\/∃ k,z=some (.int k h)) (M:0<=l) (h1:l<=h) (h2:h<=n) (hc:n<=cap):
 (Instr.sliceBounds o n cap H z none).run Γ.P w=.ok (l.toNat,h.toNat,cap) w:=by
 have I:0<=h:=by omega
 have J:h<=(cap:Int):=by omega
 have Z:l<=((h.toNat:Nat):Int):=by omega
 have a4:l<=((n:Nat):Int):=by omega
 rcases hh with ⟨rfl,rfl⟩ | ⟨k,rfl⟩<;>rcases hl with ⟨rfl,rfl⟩ | ⟨O,rfl⟩
 ·simp [Instr.sliceBounds]
 ·simp [Instr.sliceBounds,ajb (Γ:=Γ) (w:=w) O l n _ M a4]
 ·simp [Instr.sliceBounds,ajb (Γ:=Γ) (w:=w) k h cap _ I J]
 ·simp only [Instr.sliceBounds,Sem.run_bind,Sem.run_pure,Result.andThen_ok,ajb (Γ:=Γ) (w:=w) k h cap _ I J,ajb (Γ:=Γ) (w:=w) O l h.toNat _ M Z]
theorem amy (T:TypeId) (x:SV) (xv:Value) (lo hi:Option SV) (z o:Option Value) (hx:SRep Γ.P D w ow μ st x xv)
 (ad:∀ s u,lo=some s->z=some u->SRep Γ.P D w ow μ st s u) (M:lo.isSome=z.isSome) (ab:∀ s u,hi=some s->o=some u->SRep Γ.P D w ow μ st s u) (I:hi.isSome=o.isSome)
 {r:Bool×SV} (h:aku Γ.P T x lo hi=some r) (O:r.1=true):∃ u,(Instr.sliceAt T xv z o none).run Γ.P w=.ok u w/\SRep Γ.P D w ow μ st r.2 u:=by
 unfold aku at h
 split at h
 case h_2=>cases h
 rename_i n E k T' hT
 split at h
 case h_2=>cases h
 rename_i l hh aa Z
 cases H:(Nat.beq T T'&&aa1 Γ.P E) with
 | false=>rw [H] at h;cases h
 | true=>
  rw [H] at h
  simp only [Af,Al] at h
  subst h
  simp only [Ai,aa1,Bool.not_eq_true'] at H
  have:=Aa H.1;subst this
  have ae:Γ.P.cellsOf E≠0:=λe=>by have:=H.2.1.1;rw [e] at this;cases this
  obtain ⟨af,J,hs⟩:=aa5 ae
  simp only [A6] at O
  obtain ⟨h0,O,h2,h3⟩:=O
  have q1:=ahf ad M aa
  have q2:=ahf ab I Z
  have hr:=aht (Γ:=Γ) (w:=w) false n n z o l hh q1 q2 h0 h2 h3 (Nat.le_refl _)
  cases hx with
  | ref hk hp=>
   simp only [abv,Al,Prod.mk.injEq] at hp
   obtain ⟨rfl,rfl⟩:=hp
   refine ⟨.slice (some ⟨μ k,l.toNat*Γ.P.cellsOf E,none⟩) (hh.toNat-l.toNat) (n-l.toNat),?_,.asl hk hT (by omega) (by omega)⟩
   simp only [Instr.sliceAt,Instr.sureAddr,Sem.run_bind,run_underlying hT,Result.andThen_ok,Sem.run_pure,hr,aa3 J hs]
   rw [if_neg (by omega)]
   simp [ab6]
theorem aqc (hw:WRel Γ D ow μ st w) (J O:TypeId) (x:SV) (a:Value) (v:SV) (ha:SRep Γ.P D w ow μ st x a) (h:aeo Γ.P st J O x=.val true v):∃ u,(convert J O a).run Γ.P w=.ok u w/\SRep Γ.P D w ow μ st v u:=by
 unfold aeo at h;split at h;case h_2=>exact avj J O x a v ha h
 rename_i k lo n E;split at h;case h_2=>cases h
 rename_i TB aa pv hd hk;cases hb:(Nat.beq TB aa&&ap3 Γ.P TB E&&ada Γ.P J E) with
 | false=>rw [hb] at h;cases h
 | true=>
  rw [hb] at h;simp only [Af,Ac.val.injEq,true_and] at h;subst h;simp only [Ai] at hb;obtain ⟨⟨ab,z⟩,H⟩:=hb;have:=Aa ab;subst this;cases ha with
  | @asl _ _ _ m cap _ ae v2 Z hT hl hc=>
   rw [hk] at Z;simp only [Al,BX.box.injEq] at Z;obtain ⟨rfl,rfl⟩:=Z;obtain ⟨o,T',q1,q2,q3,q4,q5⟩:=hw.box k TB _ hk;obtain ⟨a1,a2,a3,a4,a5⟩:=alc hT q5 q2;have I:Γ.P.cellsOf E=1:=by unfold ada at H;simp only [Ai] at H;exact Aa H.2
   have af:Γ.P.cellsOf TB=m:=by unfold ap3 at z;rw [hT] at z;simp only [Ai] at z;have:=Aa z.2;rw [I] at this;omega
   refine ⟨_,afw (D:=λ_ _=>True) H hd ?_,.str⟩;have M:((pv.parts.drop lo).take n).length=n:=by simp;omega
   have e:=SliceRep.mk (P:=Γ.P) (D:=λ_ _=>True) (w:=w) (E:=E) (b:=μ k) (off:=lo*Γ.P.cellsOf E) (cap:=cap) (xs:=(pv.parts.drop lo).take n) (L:=(o.drop lo).take n) (by omega) (by rw [M,I];simp;omega) (λi x hx=>?_) (λj u hj=>⟨trivial,?_⟩)
   ·rw [M] at e;exact e
   ·have hi:i<n:=by have:=(List.getElem?_eq_some_iff.1 hx).1;omega
    rw [List.getElem?_take_of_lt hi,List.getElem?_drop] at hx;have r:=a5 (lo+i) x hx;rw [I,Nat.mul_one] at r ⊢;have e2:(((o.drop lo).take n).drop i).take 1=(o.drop (lo+i)).take 1:=by rw [List.drop_take,List.take_take,Bo,Nat.min_eq_left (by omega)]
    rw [e2];exact r.mono (λ_ _ _=>trivial) (Keeps.refl _ _)
   ·have ad:j<n:=by have:=(List.getElem?_eq_some_iff.1 hj).1;rw [List.length_take] at this;omega
    rw [List.getElem?_take_of_lt ad,List.getElem?_drop] at hj;simp [World.cell?,q1,hj,I]
theorem atl (T:TypeId) (x0:SV) (lo O mx:Option SV) (xv:Value) (H z ai:Option Value) (v:SV) (hx:SRep Γ.P D w ow μ st x0 xv)
 (ah:∀ s u,lo=some s->H=some u->SRep Γ.P D w ow μ st s u) (M:lo.isSome=H.isSome) (ag:∀ s u,O=some s->z=some u->SRep Γ.P D w ow μ st s u) (I:O.isSome=z.isSome) (an:mx.isSome=ai.isSome)
 (h:aij Γ.P T x0 lo O mx=.val true v):∃ u,(Instr.sliceAt T xv H z ai).run Γ.P w=.ok u w/\SRep Γ.P D w ow μ st v u:=by
 unfold aij at h
 split at h
 ·simp at h
 ·have hm:ai=none:=by simpa using an.symm
  subst hm;cases ae:aku Γ.P T x0 lo O with
  | some r=>rw [ae] at h;simp only [Ac.val.injEq] at h;obtain ⟨h1,rfl⟩:=h;exact amy T x0 xv lo O H z hx ah M ag I ae h1
  | none=>
  rw [ae] at h;simp only at h;split at h
  ·rename_i s hT;split at h
   ·rename_i l o ab aa;simp only [Ac.val.injEq,A6] at h;obtain ⟨⟨h0,h1,h2⟩,rfl⟩:=h;cases hx;have q1:=ahf ah M ab;have q2:=ahf ag I aa;have ap:(⟨s.toArray⟩:ByteArray).size=s.length:=by show s.toArray.size=_;simp
    have hr:=aht (Γ:=Γ) (w:=w) false s.length s.length H z l o q1 q2 h0 h1 h2 (Nat.le_refl _);refine ⟨_,?_,.str (s:=(s.take o.toNat).drop l.toNat)⟩;simp only [Instr.sliceAt,Sem.run_bind,run_underlying hT,Result.andThen_ok,Instr.slice,ap,Option.isSome_none,A7,A8,Sem.run_pure,ByteArray.extract_mk,List.drop_take];rw [hr];rfl
   ·simp at h
  ·rename_i x0 _ _ E hT;split at h
   ·rename_i xs hl;split at h
    ·rename_i l o ab aa;cases Z:(alo Γ.P E x0&&!(Nat.beq (Γ.P.cellsOf E) 0)) with
     | false=>rw [Z] at h;simp at h
     | true=>
      rw [Z] at h;simp only [Af,Ac.val.injEq,A6] at h;obtain ⟨⟨h0,h1,h2⟩,rfl⟩:=h;simp only [Ai,Bool.not_eq_true'] at Z;have ak:Γ.P.cellsOf E≠0:=λe=>by rw [e] at Z;cases Z.2
      have ao:=aj3 hx hl Z.1;have q1:=ahf ah M ab;have q2:=ahf ag I aa;cases ao with
      | @nil ad cp am=>
       have e1:o=0:=by simp at h2;omega
       have e2:l=0:=by omega
       subst e1;subst e2;obtain ⟨aq,O,hs⟩:=aa5 ak;have hr:=aht (Γ:=Γ) (w:=w) true 0 cp H z 0 0 q1 (by simpa using q2) (by omega) (by omega) (by omega) (Nat.zero_le _);refine ⟨.slice (if cp=0 then ad else ad.map (·.add (0*Γ.P.cellsOf E))) 0 cp,?_,.slice (.nil λZ=>?_)⟩
       ·simp only [Instr.sliceAt,Sem.run_bind,run_underlying hT,Result.andThen_ok,Instr.slice,hr,aa3 O hs];rfl
       ·by_cases hc:cp=0
        ·exact hc
        ·rw [if_neg hc] at Z;cases ad with
         | none=>exact am rfl
         | some a=>simp at Z
      | @mk b off cap _ L aj hL al af=>
       obtain ⟨aq,O,hs⟩:=aa5 ak;have hr:=aht (Γ:=Γ) (w:=w) true xs.length cap H z l o q1 q2 h0 h1 h2 aj;have J:((xs.take o.toNat).drop l.toNat).length=o.toNat-l.toNat:=by simp;omega
       by_cases e:cap=l.toNat
       ·have e0:o.toNat-l.toNat=0:=by omega
        have e1:(xs.take o.toNat).drop l.toNat=[]:=Bc (by omega);refine ⟨.slice (some ⟨b,off,none⟩) 0 0,?_,?_⟩
        ·simp only [Instr.sliceAt,Sem.run_bind,run_underlying hT,Result.andThen_ok,Instr.slice,hr,aa3 O hs,Sem.run_pure,Option.map_some,ab6];rw [if_pos e,e0,e,Nat.sub_self]
        ·rw [e1];exact .slice (.mk (xs:=[]) (L:=[]) (by simp) (by simp) (λi y hy=>by simp at hy) (λj v hj=>by simp at hj))
       refine ⟨.slice (some ⟨b,off+l.toNat*Γ.P.cellsOf E,none⟩) (o.toNat-l.toNat) (cap-l.toNat),?_,?_⟩
       ·simp only [Instr.sliceAt,Sem.run_bind,run_underlying hT,Result.andThen_ok,Instr.slice,hr,aa3 O hs,Sem.run_pure,Option.map_some,ab6];rw [if_neg e]
       ·rw [<-J];refine .slice (.mk (L:=(L.drop (l.toNat*Γ.P.cellsOf E)).take ((o.toNat-l.toNat)*Γ.P.cellsOf E)) (by rw [J];omega) ?_ (λi y hy=>?_) (af.sub _ _))
        ·rw [J];have:o.toNat*Γ.P.cellsOf E<=xs.length*Γ.P.cellsOf E:=Ay _ (by omega);have h3:(o.toNat-l.toNat)*Γ.P.cellsOf E=o.toNat*Γ.P.cellsOf E-l.toNat*Γ.P.cellsOf E:=Nat.sub_mul _ _ _;rw [List.length_take,Be,hL];omega
        ·have ar:i<o.toNat-l.toNat:=by have:=(List.getElem?_eq_some_iff.1 hy).1;omega
         rw [List.getElem?_drop,List.getElem?_take_of_lt (by omega)] at hy;have:=al _ _ hy;rw [Nat.add_mul] at this;rw [List.drop_take,List.take_take,Bo,Nat.min_eq_left]
         ·exact this
         ·have h4:(i+1)*Γ.P.cellsOf E<=(o.toNat-l.toNat)*Γ.P.cellsOf E:=Ay _ (by omega);rw [Nat.add_mul] at h4;omega
    ·simp at h
   ·simp at h
  ·simp at h
theorem ayy (hw:WRel Γ D ow μ st w) (T:TypeId) (x:SV) (xv:Value) (v:SV) (H:SRep Γ.P D w ow μ st x xv) (h:ao3 Γ.P T st x=.val true v) (ty:TypeId):
 ∃ u,(Builtin.len_ #[T] ty #[xv]).run Γ.P w=.ok u w/\SRep Γ.P D w ow μ st v u:=by
 unfold ao3 at h
 split at h
 ·rename_i s o;simp only [Ac.val.injEq,true_and] at h;subst h;cases H;have J:(⟨s.toArray⟩:ByteArray).size=s.length:=by show s.toArray.size=_;simp
  exact ⟨.int .i64 s.length,by simp [Builtin.len_,run_underlying o,goInt,J],.int⟩
 ·rename_i E M xs o;simp only [Ac.val.injEq,true_and] at h;subst h;cases H with
  | slice O=>cases O<;>exact ⟨_,by simp [Builtin.len_,run_underlying o,goInt],.int⟩
 ·rename_i E k g M xs o;simp only [Ac.val.injEq,true_and] at h;subst h;cases H with
  | acc O=>cases O<;>exact ⟨_,by simp [Builtin.len_,run_underlying o,goInt],.int⟩
 ·rename_i E M xs o;simp only [Ac.val.injEq,true_and] at h;subst h;cases H with
  | lit O=>exact ⟨_,by simp [Builtin.len_,run_underlying o,goInt],.int⟩
 ·rename_i E o;simp only [Ac.val.injEq,true_and] at h;subst h;cases H;exact ⟨_,by simp [Builtin.len_,run_underlying o,goInt],.int⟩
 ·rename_i E k g M o;split at h
  ·rename_i xs Z;have I:=adb Z;simp only [Ac.val.injEq,true_and] at h;subst h;cases H with
   | arrOld z hg=>rw [I] at z;cases z;omega
   | arrNil z=>rw [I] at z;cases z;exact ⟨_,by simp [Builtin.len_,run_underlying o,goInt],.int⟩
   | arr z=>rw [I] at z;cases z;exact ⟨_,by simp [Builtin.len_,run_underlying o,goInt],.int⟩
  ·cases h
 ·rename_i K E K' M es o;simp only [Ac.val.injEq,true_and] at h;subst h;cases H with
  | map O=>
   cases O with
   | nil=>exact ⟨_,by simp [Builtin.len_,run_underlying o,goInt],.int⟩
   | mk kc vc hh hd J=>exact ⟨.int .i64 es.length,by simp [Builtin.len_,run_underlying o,goInt,getObj,Sem.run,hh,J],.int⟩
 ·rename_i K E k o;split at h
  ·rename_i K' M es z;simp only [Ac.val.injEq,true_and] at h;subst h;cases H;obtain ⟨ents,clock,kc,vc,h1,_,_,h4,_⟩:=hw.map k K' M es z;exact ⟨.int .i64 es.length,by simp [Builtin.len_,run_underlying o,goInt,getObj,Sem.run,h1,h4],.int⟩
  ·simp at h
 ·simp at h
theorem asj (S:TypeId) (i:Nat) (a:SV) (av:Value) (v:SV) (ha:SRep Γ.P D w ow μ st a av) (h:aib Γ.P S i a=.val true v):
 ∃ u,(Instr.field S av i).run Γ.P w=.ok u w/\SRep Γ.P D w ow μ st v u:=by
 unfold aib at h
 split at h
 ·rename_i fs z;split at h
  ·rename_i f M;cases hc:(abx Γ.P S&&aa1 Γ.P f.type) with
   | false=>rw [hc] at h;simp at h
   | true=>
    rw [hc] at h;simp only [Af] at h;simp only [Ai,aa1,Bool.not_eq_true',Bd] at hc;obtain ⟨hL,⟨ai,ad⟩,ae⟩:=hc;have hL:=ab7 hL z;have key:∀ cs:List Value,cs.length=Γ.P.cellsOf S->(Instr.field S (.agg cs.toArray) i).run Γ.P w=.ok (pack Γ.P f.type ((cs.drop f.offset).take (Γ.P.cellsOf f.type))) w:=by intro cs hl;have hp:=apl ad cs f.offset (by rw [hl];exact hL.inside i f M) (ae.imp id Aa) w;simp only [Instr.field,Sem.run_bind,run_underlying z,Result.andThen_ok,M,asAgg,Sem.run_pure];exact hp
    split at h
    ·rename_i T pv;cases H:Nat.beq S T with
     | false=>rw [H] at h;simp at h
     | true=>
      rw [H] at h;simp only [Af,Ac.val.injEq,true_and] at h;have:=Aa H;subst this;subst h;cases ha with
      | @data _ _ cs J hr=>
       refine ⟨_,key cs (hr.aggLen J),?_⟩;cases hr with
       | @agg _ ab vs _ o O ag Z I=>
        rw [z] at o;cases o;have af:i<vs.length:=by rw [Z];exact (Array.getElem?_eq_some_iff.1 M).1
        have aa:vs[i]?=some vs[i]:=Aq af;rw [aou aa];exact (I i vs[i] f aa M).ofPV
       | arr o=>rw [z] at o;cases o
       | bool o=>rw [z] at o;cases o
       | int o=>rw [z] at o;cases o
       | str o=>rw [z] at o;cases o
       | nil o=>rw [z] at o;cases o
       | slice o=>rw [z] at o;cases o
       | mapnil o=>rw [z] at o;cases o
       | map _ _ o=>rw [z] at o;cases o
       | raw I=>simp [rawT,z] at I
    ·rename_i T vs;cases H:Nat.beq S T with
     | false=>rw [H] at h;simp at h
     | true=>
      rw [H] at h;simp only [Af] at h;have:=Aa H;subst this;split at h
      ·rename_i x hx;simp only [Ac.val.injEq,true_and] at h;subst h;cases ha with
       | @agg _ ab _ cs o O ag Z ah=>rw [z] at o;cases o;exact ⟨_,key cs O,ah i _ f hx M⟩
      ·simp at h
    ·simp at h
  ·simp at h
 ·simp at h
end
end Go.Ab
