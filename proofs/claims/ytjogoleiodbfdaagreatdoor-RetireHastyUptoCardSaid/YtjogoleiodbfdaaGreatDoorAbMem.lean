/- Operations that read memory. -/
import Derived.Test.YtjogoleiodbfdaaGreatDoorAbAct
set_option linter.unusedVariables false
set_option linter.unusedSimpArgs false
set_option linter.unnecessarySimpa false
namespace Go.Ab
open Go
theorem ad0 {P:Program}{T:TypeId} (o:(P.underlying T).isSome=true) (w:World) (b off:Nat) (cs:List Value) (M:∀ j v,cs[j]?=some v->w.cell? ⟨b,off+j,none⟩=some v)
 (J:aal P T=true->cs.length=P.cellsOf T) (I:aal P T=false->∃ u,cs=[u]):(loadVar T ⟨b,off,none⟩).run P w=.ok (pack P T cs) w:=by
 unfold loadVar
 simp only [Sem.run_bind,akv o,Result.andThen_ok]
 cases h:aal P T with
 | true=>
  obtain ⟨d,O⟩:=Option.isSome_iff_exists.1 o
  obtain ⟨i,Z,hs⟩:=aji O
  have H:=run_loadCells_list (P:=P) w ⟨b,off,none⟩ cs (λj v hj=>by grind [acb])
  rw [J h] at H
  simp only [A9,Sem.run_bind,aa5 Z hs,Result.andThen_ok,H,pack,h]
  rfl
 | false=>
  obtain ⟨u,rfl⟩:=I h
  have:=M 0 u rfl
  simp only [Nat.add_zero] at this
  simp [this,pack,h]
section
variable {Γ:Ctx}{D:Dom}{ow:Own}{μ:Nat->Nat}{st:List BX}{w:World}
theorem Rep.single {P:Program}{T:TypeId}{v:PV}{cs:List Value} (h:Rep P D w T v cs) (H:aal P T=false):∃ u,cs=[u]:=by
 cases h with
 | agg o=>grind [aal]
 | arr o=>grind [aal]
 | _=>exact ⟨_,rfl⟩
theorem a4f {o:Type}{l:List o}{i:Nat}{d:o} (h:i<l.length):l[i]?=some (l.getD i d):=by grind
theorem al8 {P:Program}{TB E:TypeId}{n:Nat}{J:PV}{o:List Value} (M:P.underlying TB=some (.array n E)) (h:SRep P D w ow μ st (.data TB J) (pack P TB o)) (hl:o.length=P.cellsOf TB):
 J=.agg J.parts/\J.parts.length=n/\o.length=P.cellsOf TB/\(∀ c,c∈o->c.oneCell'=true)/\∀ (i:Nat) (x:PV),J.parts[i]?=some x->Rep P D w E x ((o.drop (i*P.cellsOf E)).take (P.cellsOf E)):=by
 have Z:aal P TB=true:=by simp [aal,M]
 simp only [pack,Z,A9] at h
 generalize O:Value.agg o.toArray=v at h
 cases h with
 | data _ hr=>
  simp only [Value.agg.injEq] at O
  have I:=congrArg Array.toList O
  simp only [List.toList_toArray] at I
  subst I
  cases hr with
  | agg H=>grind
  | arr H l1 o1 v1 r1=>rw [M] at H;cases H;exact ⟨rfl,v1,l1,o1,r1⟩
  | raw H=>grind [rawT]
  | bool H=>grind
  | int H=>grind
  | str H=>grind
  | nil H=>grind
  | slice H=>grind
  | mapnil H=>grind
  | map _ _ H=>grind
theorem adr {k g:Nat}{E:TypeId}{xs:List PV} (h:agv st k g E=some xs):st[k]?=some (.arr E g xs):=by
 unfold agv at h;split at h
 ·rename_i o H xs' J;cases I:(Nat.beq g H&&Nat.beq E o) with
  | false=>grind
  | true=>simp_all
 ·cases h
theorem avo (hw:WRel Γ D ow μ st w) {k g i:Nat}{E:TypeId}{xs:List PV}{H:Array Value} (hk:st[k]?=some (.arr E g xs)) (hi:i<xs.length) (Z:w.heap[μ k]?=some (.cells H E (0,0))):
 (i+1)*Γ.P.cellsOf E<=H.size/\(∀ o,¬D (μ k) o)/\Rep Γ.P D w E (xs.getD i .bad) ((H.toList.drop (i*Γ.P.cellsOf E)).take (Γ.P.cellsOf E)):=by
 rcases hw.obj k _ hk with h | ⟨I,J,h2,M,O,h5⟩
 ·grind
 ·rw [Z] at J;cases J;have aa:xs[i]?=some xs[i]:=As hi;have hd:xs.getD i PV.bad=xs[i]:=by grind
  refine ⟨Nat.le_trans (Aw _ (by omega)) O,M,?_⟩;grind
theorem ax2 (hw:WRel Γ D ow μ st w) (T:TypeId) (a:SV) (ad:Value) (v:SV) (I:SRep Γ.P D w ow μ st a ad) (h:agq Γ.P T st a=.val true v):
 ∃ u,(Instr.loadAt T ad).run Γ.P w=.ok u w/\SRep Γ.P D w ow μ st v u:=by
 unfold agq at h
 split at h
 ·rename_i Z pv;cases H:(Nat.beq T Z&&(Γ.P.underlying T).isSome) with
  | false=>grind
  | true=>
   rw [H] at h;simp only [Aj] at H;have:=Ae H.1;subst this;simp only [Af,Ac.val.injEq,true_and] at h;subst h;cases I with
   | @pto _ _ b off cs hh hr=>refine ⟨_,?_,hr.ofPV⟩;simp only [Instr.loadAt,Instr.sureAddr,Sem.run_bind,Sem.run_pure,Result.andThen_ok];exact ad0 H.2 w b off cs (λj v hj=>(hh j v hj).2) (λI=>hr.aggLen I) (λI=>hr.single I)
 ·rename_i k path Z;cases H:(Nat.beq T Z&&(Γ.P.underlying T).isSome) with
  | false=>grind
  | true=>
   rw [H] at h;simp only [Aj] at H;have:=Ae H.1;subst this;simp only [Af] at h;cases I with
   | @ref _ _ _ TB s off J hp=>
    rw [J] at h;simp only at h;cases h1:(aal Γ.P T||Nat.beq (Γ.P.cellsOf T) 1) with
    | false=>grind
    | true=>
     rw [h1] at h;simp only [Af] at h;cases hg:ahb Γ.P TB s path with
     | none=>grind
     | some x=>
      rw [hg] at h;simp only [Ac.val.injEq,true_and] at h;subst h;obtain ⟨o,Z,q1,q2,q3,q4,q5⟩:=hw.box k TB s J;obtain ⟨r1,r2⟩:=ajh path TB s o off T x q5 q2 hp hg;refine ⟨_,?_,r1⟩;have M:((o.drop off).take (Γ.P.cellsOf T)).length=Γ.P.cellsOf T:=by simp;omega
      simp only [Instr.loadAt,Instr.sureAddr,Sem.run_bind,Sem.run_pure,Result.andThen_ok];refine ad0 H.2 w (μ k) off _ (λj v hj=>?_) (λ_=>M) (λI=>?_)
      ·grind [List.getElem?_eq_some_iff,List.getElem?_take_of_lt,World.cell?]
      ·rw [I] at h1;simp at h1;rw [h1] at M ⊢;match (o.drop off).take 1,M with
       | [u],_=>grind
 ·rename_i k i E;cases H:(Nat.beq T E&&aa4 Γ.P E) with
  | false=>grind
  | true=>
   rw [H] at h;simp only [Af] at h;simp only [Aj,aa4] at H;have:=Ae H.1;subst this;cases I with
   | @eref _ _ n _ TB s J hT hi=>
    rw [J] at h;split at h;case h_2=>cases h
    rename_i ak ae pv he;cases he;cases hc:(Nat.beq TB ae&&aq3 Γ.P TB T) with
    | false=>grind
    | true=>
     rw [hc] at h;simp only [Af,Ac.val.injEq,true_and] at h;subst h;simp only [Aj] at hc;have:=Ae hc.1;subst this;obtain ⟨o,Z,q1,q2,q3,q4,q5⟩:=hw.box k TB _ J;obtain ⟨a1,a2,a3,a4,a5⟩:=al8 hT q5 q2;have aj:pv.parts[i]?=some (pv.fld i):=by grind [PV.fld,a4f]
     have hr:=a5 i _ aj;refine ⟨_,?_,hr.ofPV⟩;simp only [Instr.loadAt,Instr.sureAddr,Sem.run_bind,Sem.run_pure,Result.andThen_ok];refine ad0 H.2.1.2 w (μ k) _ _ (λj v hj=>?_) (λI=>hr.aggLen I) (λI=>hr.single I);grind [List.getElem?_eq_some_iff,List.length_take,List.getElem?_take_of_lt,World.cell?]
 ·rename_i k g i E path Z;cases H:(Nat.beq T Z&&aa4 Γ.P E&&aa4 Γ.P T) with
  | false=>grind
  | true=>
   rw [H] at h;simp only [Af] at h;simp only [Aj,aa4,Bool.not_eq_true',Bd] at H;obtain ⟨⟨ag,⟨al,am⟩,an⟩,⟨ao,ah⟩,ai⟩:=H;have:=Ae ag;subst this;split at h;case h_2=>cases h
   rename_i xs af;have ab:=adr af;cases I with
   | arefOld J hg=>grind
   | @aref _ _ _ off _ _ _ ap aa J hi hp hc ho=>
    rw [ab] at J;cases J;obtain ⟨a1,a2,a3⟩:=avo hw ab hi hc;cases hg:ahb Γ.P E (ofPV Γ.P E (xs.getD i .bad)) path with
    | none=>grind
    | some x=>
     rw [hg] at h;simp only [Ac.val.injEq,true_and] at h;subst h;have O:((aa.toList.drop (i*Γ.P.cellsOf E)).take (Γ.P.cellsOf E)).length=Γ.P.cellsOf E:=by grind
     obtain ⟨r1,r2⟩:=ajh (ow:=ow) (μ:=μ) (st:=st) path E _ _ off T x a3.ofPV O hp hg;refine ⟨_,?_,r1⟩;simp only [Instr.loadAt,Instr.sureAddr,Sem.run_bind,Sem.run_pure,Result.andThen_ok];rw [O] at r2;have M:(((aa.toList.drop (i*Γ.P.cellsOf E)).take (Γ.P.cellsOf E)).drop off |>.take (Γ.P.cellsOf T)).length=Γ.P.cellsOf T:=by grind
     refine ad0 ah w (μ k) _ _ (λj v hj=>?_) (λ_=>M) (λI=>?_)
     ·grind [List.getElem?_eq_some_iff,List.getElem?_take_of_lt,World.cell?,Nat.add_assoc]
     ·rcases ai with h7 | h7
      ·grind
      ·have h7:=Ae h7;generalize (((aa.toList.drop (i*Γ.P.cellsOf E)).take (Γ.P.cellsOf E)).drop off |>.take (Γ.P.cellsOf T))=l at M ⊢;rw [h7] at M;match l,M with
       | [u],_=>grind
 ·simp at h
theorem alf {P:Program}:∀ (path:List Nat) (TB:TypeId) (off:Nat) (S:TypeId) (i:Nat) (H:Array Field) (f:Field),ab3 P TB path=some (off,S)->P.underlying S=some (.struct H)->H[i]?=some f->
 ab3 P TB (path++[i])=some (off+f.offset,f.type):=by
 intro path
 induction path with
 | nil=>
  intro TB off S i H f h J M
  simp [ab3] at h
  obtain ⟨rfl,rfl⟩:=h
  grind [ab3]
 | cons j p ih=>
  intro TB off S i H f h J M
  unfold ab3 at h
  cases I:P.underlying TB with
  | none=>grind
  | some d=>
   cases d with
   | struct ds=>
    rw [I] at h
    simp only at h
    cases O:ds[j]? with
    | none=>grind
    | some g=>
     rw [O] at h
     simp only at h
     cases Z:ab3 P g.type p with
     | none=>grind
     | some r=>
      obtain ⟨o,t⟩:=r
      rw [Z] at h
      simp at h
      obtain ⟨rfl,rfl⟩:=h
      have:=ih g.type o t i H f Z J M
      simp only [Bm,ab3,I,O,this,Option.map_some,Nat.add_assoc]
   | _=>rw [I] at h;simp at h
theorem Held.sub {b off:Nat}{cs:List Value} (h:Held D w b off cs) (o n:Nat):Held D w b (off+o) ((cs.drop o).take n):=by
 intro j v I;by_cases H:j<n
 ·rw [List.getElem?_take_of_lt H,List.getElem?_drop] at I;have:=h _ v I;grind
 grind
theorem amm (S:TypeId) (i:Nat) (a:SV) (ad:Value) (v:SV) (ha:SRep Γ.P D w ow μ st a ad) (h:acs Γ.P st S i a=.val true v):
 ∃ u,(Instr.fieldAt S ad i).run Γ.P w=.ok u w/\SRep Γ.P D w ow μ st v u:=by
 unfold acs at h
 split at h
 ·rename_i fs J;split at h
  ·rename_i f M;cases h0:Nat.beq (Γ.P.cellsOf f.type) 0 with
   | true=>grind
   | false=>
    rw [h0] at h;simp only [Ah] at h;have Z:Γ.P.cellsOf f.type≠0:=λe=>by simp_all
    obtain ⟨ak,hi,hs⟩:=aa7 Z;have o:∀ b off:Nat,(fieldPlace ⟨b,off,none⟩ f).run Γ.P w=.ok ⟨b,off+f.offset,none⟩ w:=by intro b off;simp [fieldPlace,aa5 hi hs,Z,acb]
    split at h
    ·rename_i T pv;cases I:Nat.beq S T with
     | false=>grind
     | true=>
      rw [I] at h;simp only [Af,Ac.val.injEq,true_and] at h;have:=Ae I;subst this;subst h;cases ha with
      | @pto _ _ b off cs hh hr=>
       refine ⟨.pointer (some ⟨b,off+f.offset,none⟩),by simp [Instr.fieldAt,run_underlying J,M,Instr.sureAddr,o],?_⟩;cases hr with
       | @agg _ ag vs _ H ah ai aj aa=>
        rw [J] at H;cases H;have ae:i<vs.length:=by grind
        have ab:vs[i]?=some vs[i]:=As ae;rw [apx ab];exact .pto (hh.sub _ _) (aa i vs[i] f ab M)
       | arr H=>grind
       | bool H=>grind
       | int H=>grind
       | str H=>grind
       | nil H=>grind
       | slice H=>grind
       | mapnil H=>grind
       | map _ _ H=>grind
       | raw aa=>grind [rawT]
    ·rename_i k path T;cases I:Nat.beq S T with
     | false=>grind
     | true=>
      rw [I] at h;simp only [Af,Ac.val.injEq,true_and] at h;have:=Ae I;subst this;subst h;cases ha with
      | @ref _ _ _ TB s off O hp=>refine ⟨.pointer (some ⟨μ k,off+f.offset,none⟩),by simp [Instr.fieldAt,run_underlying J,M,Instr.sureAddr,o],?_⟩;exact .ref O (alf path TB off S i fs f hp J M)
    ·rename_i k T;cases I:(Nat.beq S T&&Nat.beq f.offset 0) with
     | false=>grind
     | true=>
      rw [I] at h;simp only [Af,Ac.val.injEq,true_and] at h;simp only [Aj] at I;have h0:=Ae I.2;subst h;cases ha with
      | bref O=>refine ⟨.pointer (some ⟨μ k,0+f.offset,none⟩),by simp [Instr.fieldAt,run_underlying J,M,Instr.sureAddr,o],?_⟩;rw [h0];exact .bref O
    ·rename_i k g j E path T;cases I:(Nat.beq S T&&aew st k g) with
     | false=>grind
     | true=>
      rw [I] at h;simp only [Af,Ac.val.injEq,true_and] at h;simp only [Aj] at I;have:=Ae I.1;subst this;subst h;cases ha with
      | arefOld O hg h1=>grind [aew,Nat.eq_of_beq_eq_true]
      | @aref _ _ _ off _ _ _ xs af O hi hp hc ho=>refine ⟨.pointer (some ⟨μ k,j*Γ.P.cellsOf E+off+f.offset,none⟩),by simp [Instr.fieldAt,run_underlying J,M,Instr.sureAddr,o],?_⟩;rw [Nat.add_assoc];exact .aref O hi (alf path E off S i fs f hp J M) hc ho
    ·simp at h
  ·simp at h
 ·simp at h
theorem akx {E:TypeId}{x:SV}{v:Value}{xs:List PV} (H:SRep Γ.P D w ow μ st x v) (o:amy x=some xs) (I:amk Γ.P E x=true):SliceRep Γ.P D w E xs v:=by
 unfold amy at o;split at o
 ·cases o;cases H with | slice h=>have:=Ae I;subst this;exact h
 ·cases o;cases H with | acc h=>have:=Ae I;subst this;exact h
 ·cases o;cases H with | lit h=>have:=Ae I;subst this;exact h
 ·cases o;cases H with | sln h=>have:=Ae I;subst this;exact h
 ·cases o;cases H;exact .nil λ_=>rfl
 ·simp at o
theorem apg (T:TypeId) (x i:SV) (xv iv:Value) (hx:SRep Γ.P D w ow μ st x xv) (hi:SRep Γ.P D w ow μ st i iv) {r:Bool×SV} (h:al7 Γ.P T x i=some r) (h1:r.1=true):
 ∃ u,(Instr.indexAt T xv iv).run Γ.P w=.ok u w/\SRep Γ.P D w ow μ st r.2 u:=by
 unfold al7 at h
 split at h
 case h_2=>cases h
 rename_i n E k T' ki o M
 cases I:(Nat.beq T T'&&aa4 Γ.P E) with
 | false=>grind
 | true=>
  rw [I] at h
  simp only [Af,Al] at h
  subst h
  simp only [Aj,aa4,Bool.not_eq_true'] at I
  have:=Ae I.1;subst this
  have J:Γ.P.cellsOf E≠0:=λe=>by simp_all
  obtain ⟨aa,H,hs⟩:=aa7 J
  have Z:0<=o/\o<(n:Int):=by grind [aaa]
  cases hi
  cases hx with
  | ref hk O=>
   simp only [ab3,Al,Prod.mk.injEq] at O
   obtain ⟨rfl,rfl⟩:=O
   refine ⟨.pointer (some ⟨μ k,o.toNat*Γ.P.cellsOf E,none⟩),?_,.eref hk M (by omega)⟩
   simp [Instr.indexAt,asIntOf,Instr.sureAddr,run_underlying M,Z.1,Z.2,aa5 H hs,acb]
theorem aqn (T:TypeId) (x i:SV) (xv iv:Value) (hx:SRep Γ.P D w ow μ st x xv) (hi:SRep Γ.P D w ow μ st i iv) {r:Bool×SV} (h:agi Γ.P T st x i=some r) (h1:r.1=true):
 ∃ u,(Instr.indexAt T xv iv).run Γ.P w=.ok u w/\SRep Γ.P D w ow μ st r.2 u:=by
 unfold agi at h
 split at h
 case h_2=>cases h
 rename_i E k g E' ki n hT
 split at h
 case h_2=>cases h
 rename_i xs J
 have H:=adr J
 cases M:(Nat.beq E E'&&aa4 Γ.P E) with
 | false=>grind
 | true=>
  rw [M] at h
  simp only [Af,Al] at h
  subst h
  simp only [Aj,aa4,Bool.not_eq_true'] at M
  have:=Ae M.1;subst this
  have O:Γ.P.cellsOf E≠0:=λe=>by simp_all
  obtain ⟨ad,o,hs⟩:=aa7 O
  have Z:0<=n/\n<(xs.length:Int):=by grind [aaa]
  cases hi
  cases hx with
  | arrOld I hg=>grind
  | arrNil I=>grind
  | arr I hl aa hc ho ab=>
   rw [H] at I;cases I
   refine ⟨.pointer (some ⟨μ k,0+n.toNat*Γ.P.cellsOf E,none⟩),?_,?_⟩
   ·simp [Instr.indexAt,asIntOf,run_underlying hT,Z.1,Z.2,aa5 o hs,acb]
   ·have:=SRep.aref (P:=Γ.P) (D:=D) (w:=w) (ow:=ow) (μ:=μ) (st:=st) (i:=n.toNat) (off:=0) (T:=E) (path:=[]) H (by omega) rfl hc ho;grind
theorem ams (T:TypeId) (x i:SV) (xv iv:Value) (v:SV) (hx:SRep Γ.P D w ow μ st x xv) (hi:SRep Γ.P D w ow μ st i iv) (h:acu Γ.P T st x i=.val true v):
 ∃ u,(Instr.indexAt T xv iv).run Γ.P w=.ok u w/\SRep Γ.P D w ow μ st v u:=by
 unfold acu at h
 cases H:al7 Γ.P T x i with
 | some r=>
  rw [H] at h
  simp only [Ac.val.injEq] at h
  obtain ⟨h1,rfl⟩:=h
  grind [apg]
 | none=>
 rw [H] at h
 simp only at h
 cases I:agi Γ.P T st x i with
 | some r=>
  rw [I] at h
  simp only [Ac.val.injEq] at h
  obtain ⟨h1,rfl⟩:=h
  grind [aqn]
 | none=>
 rw [I] at h
 simp only at h
 split at h
 ·rename_i E xs k n hT hl;cases O:(amk Γ.P E x&&!(Nat.beq (Γ.P.cellsOf E) 0)) with
  | false=>grind
  | true=>
   rw [O] at h;simp only [Af,Ac.val.injEq] at h;obtain ⟨h1,rfl⟩:=h;simp only [Aj,Bool.not_eq_true'] at O;have aa:Γ.P.cellsOf E≠0:=λe=>by simp_all
   obtain ⟨af,J,hs⟩:=aa7 aa;have ab:=akx hx hl O.1;have hr:0<=n/\n<(xs.length:Int):=by grind [aaa]
   cases hi;cases ab with
   | nil=>grind
   | @mk b off cap _ L ae hL M o=>
    have Z:n.toNat<xs.length:=by omega
    have ad:xs[n.toNat]?=some xs[n.toNat]:=As Z;have hd:xs.getD n.toNat PV.bad=xs[n.toNat]:=by grind
    refine ⟨.pointer (some ⟨b,off+n.toNat*Γ.P.cellsOf E,none⟩),?_,?_⟩
    ·simp [Instr.indexAt,asIntOf,run_underlying hT,hr.1,hr.2,aa5 J hs,acb]
    ·rw [hd];exact .pto (o.sub _ _) (M _ _ ad)
 ·simp at h
theorem at7 (T:TypeId) (x i:SV) (xv iv:Value) (v:SV) (hx:SRep Γ.P D w ow μ st x xv) (hi:SRep Γ.P D w ow μ st i iv) (h:aiz Γ.P T x i=.val true v):
 ∃ u,(Instr.index T xv iv).run Γ.P w=.ok u w/\SRep Γ.P D w ow μ st v u:=by
 unfold aiz at h
 split at h
 ·rename_i s k n hT;simp only [Ac.val.injEq] at h;obtain ⟨h1,rfl⟩:=h;have hr:0<=n/\n<(s.length:Int):=by grind [aaa]
  cases hx;cases hi;have H:n.toNat<s.length:=by omega
  have e:(⟨s.toArray⟩:ByteArray)[n.toNat]?=some s[n.toNat]:=by rw [ByteArray.getElem?_lt' _ _ (by show n.toNat<s.toArray.size;simpa using H)];rfl
  have hd:s.getD n.toNat 0=s[n.toNat]:=by grind
  refine ⟨_,by simp [Instr.index,asIntOf,run_underlying hT,hr.1,e];rfl,?_⟩;rw [hd];exact .int
 ·rename_i m E T' pv k n hT;cases hb:(Nat.beq T T'&&aa4 Γ.P E&&Nat.beq (Γ.P.cellsOf T) (m*Γ.P.cellsOf E)) with
  | false=>grind
  | true=>
   rw [hb] at h;simp only [Af,Ac.val.injEq] at h;obtain ⟨h1,rfl⟩:=h;simp only [Aj,aa4,Bool.not_eq_true',Bd] at hb;obtain ⟨⟨aa,⟨aj,ab⟩,ad⟩,ae⟩:=hb;have:=Ae aa;subst this;have ag:Γ.P.cellsOf E≠0:=λe=>by simp_all
   obtain ⟨am,J,hs⟩:=aa7 ag;have ah:=Ae ae;have hr:0<=n/\n<(m:Int):=by grind [aaa]
   cases hi;cases hx with
   | @data _ _ cs ai O=>
    cases O with
    | @arr _ E2 m2 vs _ o af ak al M=>
     rw [hT] at o;cases o;have H:n.toNat<vs.length:=by omega
     have Z:vs[n.toNat]?=some vs[n.toNat]:=As H;have I:n.toNat*Γ.P.cellsOf E+Γ.P.cellsOf E<=cs.length:=by rw [af,ah];have:(n.toNat+1)*Γ.P.cellsOf E<=m*Γ.P.cellsOf E:=Aw _ (by omega);grind
     have hp:=aqo ab cs (n.toNat*Γ.P.cellsOf E) I (ad.imp id Ae) w;refine ⟨pack Γ.P E ((cs.drop (n.toNat*Γ.P.cellsOf E)).take (Γ.P.cellsOf E)),?_,?_⟩
     ·simp only [Instr.index,asIntOf,Sem.run_bind,Sem.run_pure,Result.andThen_ok,run_underlying hT];simp only [hr.1,hr.2,and_self,A9,Sem.run_bind,aa5 J hs,Result.andThen_ok];rw [hp]
     ·rw [apx Z];exact (M _ _ Z).ofPV
    | agg o=>grind
    | bool o=>grind
    | int o=>grind
    | str o=>grind
    | nil o=>grind
    | slice o=>grind
    | mapnil o=>grind
    | map _ _ o=>grind
    | raw M=>grind [rawT]
 ·simp at h
end
end Go.Ab
namespace Go.Ab
open Go
section
variable {Γ:Ctx}{D:Dom}{ow:Own}{μ:Nat->Nat}{st:List BX}{w:World}
theorem ahv {x:Option SV}{xv:Option Value}{dflt n:Int} (H:∀ s v,x=some s->xv=some v->SRep Γ.P D w ow μ st s v) (o:x.isSome=xv.isSome) (h:bnd x dflt=some n):
 (xv=none/\n=dflt)\/∃ k,xv=some (.int k n):=by
 unfold bnd at h
 split at h
 ·simp_all
 ·rename_i k m;simp at h;subst h;cases xv with
  | none=>simp at o
  | some v=>have:=H _ v rfl rfl;cases this;grind
 ·simp at h
theorem aj0 (k:IntKind) (n:Int) (y:Nat) (h:BoundsCode) (o:0<=n) (H:n<=y):(Instr.sliceBound (.int k n) y h).run Γ.P w=.ok n.toNat w:=by simp only [Instr.sliceBound,asIntOf,Sem.run_bind,Sem.run_pure,Result.andThen_ok,o,H,and_self,A9]
theorem aib (o:Bool) (n cap:Nat) (I H:Option Value) (l h:Int) (hl:(I=none/\l=0)\/∃ k,I=some (.int k l)) (hh:(H=none/\h=n)\/∃ k,H=some (.int k h)) (O:0<=l) (h1:l<=h) (h2:h<=n) (hc:n<=cap):
 (Instr.sliceBounds o n cap I H none).run Γ.P w=.ok (l.toNat,h.toNat,cap) w:=by
 have J:0<=h:=by omega
 have M:h<=(cap:Int):=by omega
 have a3:l<=((h.toNat:Nat):Int):=by omega
 have a4:l<=((n:Nat):Int):=by omega
 rcases hh with ⟨rfl,rfl⟩ | ⟨k,rfl⟩<;>rcases hl with ⟨rfl,rfl⟩ | ⟨Z,rfl⟩
 ·simp [Instr.sliceBounds]
 ·simp [Instr.sliceBounds,aj0 (Γ:=Γ) (w:=w) Z l n _ O a4]
 ·simp [Instr.sliceBounds,aj0 (Γ:=Γ) (w:=w) k h cap _ J M]
 ·simp only [Instr.sliceBounds,Sem.run_bind,Sem.run_pure,Result.andThen_ok,aj0 (Γ:=Γ) (w:=w) k h cap _ J M,aj0 (Γ:=Γ) (w:=w) Z l h.toNat _ O a3]
theorem an2 (T:TypeId) (x:SV) (xv:Value) (lo hi:Option SV) (H o:Option Value) (hx:SRep Γ.P D w ow μ st x xv)
 (ae:∀ s u,lo=some s->H=some u->SRep Γ.P D w ow μ st s u) (M:lo.isSome=H.isSome) (ad:∀ s u,hi=some s->o=some u->SRep Γ.P D w ow μ st s u) (I:hi.isSome=o.isSome)
 {r:Bool×SV} (h:alr Γ.P T x lo hi=some r) (O:r.1=true):∃ u,(Instr.sliceAt T xv H o none).run Γ.P w=.ok u w/\SRep Γ.P D w ow μ st r.2 u:=by
 unfold alr at h
 split at h
 case h_2=>cases h
 rename_i n E k T' hT
 split at h
 case h_2=>cases h
 rename_i l hh ab aa
 cases Z:(Nat.beq T T'&&aa4 Γ.P E) with
 | false=>grind
 | true=>
  rw [Z] at h
  simp only [Af,Al] at h
  subst h
  simp only [Aj,aa4,Bool.not_eq_true'] at Z
  have:=Ae Z.1;subst this
  have af:Γ.P.cellsOf E≠0:=λe=>by simp_all
  obtain ⟨ag,J,hs⟩:=aa7 af
  simp only [A5] at O
  obtain ⟨h0,O,h2,h3⟩:=O
  have q1:=ahv ae M ab
  have q2:=ahv ad I aa
  have hr:=aib (Γ:=Γ) (w:=w) false n n H o l hh q1 q2 h0 h2 h3 (Nat.le_refl _)
  cases hx with
  | ref hk hp=>
   simp only [ab3,Al,Prod.mk.injEq] at hp
   obtain ⟨rfl,rfl⟩:=hp
   refine ⟨.slice (some ⟨μ k,l.toNat*Γ.P.cellsOf E,none⟩) (hh.toNat-l.toNat) (n-l.toNat),?_,.asl hk hT (by omega) (by omega)⟩
   simp only [Instr.sliceAt,Instr.sureAddr,Sem.run_bind,run_underlying hT,Result.andThen_ok,Sem.run_pure,hr,aa5 J hs]
   rw [if_neg (by omega)]
   simp [acb]
theorem arf (hw:WRel Γ D ow μ st w) (O Z:TypeId) (x:SV) (a:Value) (v:SV) (ha:SRep Γ.P D w ow μ st x a) (h:ae0 Γ.P st O Z x=.val true v):∃ u,(convert O Z a).run Γ.P w=.ok u w/\SRep Γ.P D w ow μ st v u:=by
 unfold ae0 at h;split at h;case h_2=>grind [axb]
 rename_i k M n E;split at h;case h_2=>cases h
 rename_i TB aa pv hd hk;cases hb:(Nat.beq TB aa&&aq3 Γ.P TB E&&adn Γ.P O E) with
 | false=>grind
 | true=>
  rw [hb] at h;simp only [Af,Ac.val.injEq,true_and] at h;subst h;simp only [Aj] at hb;obtain ⟨⟨ab,I⟩,H⟩:=hb;have:=Ae ab;subst this;cases ha with
  | @asl _ _ _ m cap _ af v2 J hT hl hc=>
   rw [hk] at J;simp only [Al,BX.box.injEq] at J;obtain ⟨rfl,rfl⟩:=J;obtain ⟨o,T',q1,q2,q3,q4,q5⟩:=hw.box k TB _ hk;obtain ⟨a1,a2,a3,a4,a5⟩:=al8 hT q5 q2;have ad:Γ.P.cellsOf E=1:=by unfold adn at H;simp only [Aj] at H;exact Ae H.2
   have ag:Γ.P.cellsOf TB=m:=by unfold aq3 at I;rw [hT] at I;simp only [Aj] at I;grind [Nat.eq_of_beq_eq_true]
   refine ⟨_,af9 (D:=λ_ _=>True) H hd ?_,.str⟩;have ae:((pv.parts.drop M).take n).length=n:=by simp;omega
   have e:=SliceRep.mk (P:=Γ.P) (D:=λ_ _=>True) (w:=w) (E:=E) (b:=μ k) (off:=M*Γ.P.cellsOf E) (cap:=cap) (xs:=(pv.parts.drop M).take n) (L:=(o.drop M).take n) (by omega) (by grind) (λi x hx=>?_) (λj u hj=>⟨trivial,?_⟩)
   ·grind
   ·have hi:i<n:=by grind
    rw [List.getElem?_take_of_lt hi,List.getElem?_drop] at hx;have r:=a5 (M+i) x hx;rw [ad,Nat.mul_one] at r ⊢;have e2:(((o.drop M).take n).drop i).take 1=(o.drop (M+i)).take 1:=by grind [List.drop_take,List.drop_drop,Nat.min_eq_left]
    rw [e2];exact r.mono (λ_ _ _=>trivial) (Keeps.refl _ _)
   grind [List.getElem?_eq_some_iff,List.length_take,List.getElem?_take_of_lt,World.cell?]
theorem au3 (T:TypeId) (x0:SV) (lo M mx:Option SV) (xv:Value) (I H af:Option Value) (v:SV) (hx:SRep Γ.P D w ow μ st x0 xv)
 (aj:∀ s u,lo=some s->I=some u->SRep Γ.P D w ow μ st s u) (Z:lo.isSome=I.isSome) (ai:∀ s u,M=some s->H=some u->SRep Γ.P D w ow μ st s u) (O:M.isSome=H.isSome) (am:mx.isSome=af.isSome)
 (h:ai5 Γ.P T x0 lo M mx=.val true v):∃ u,(Instr.sliceAt T xv I H af).run Γ.P w=.ok u w/\SRep Γ.P D w ow μ st v u:=by
 unfold ai5 at h
 split at h
 ·simp at h
 ·have hm:af=none:=by simpa using am.symm
  subst hm;cases ah:alr Γ.P T x0 lo M with
  | some r=>rw [ah] at h;simp only [Ac.val.injEq] at h;obtain ⟨h1,rfl⟩:=h;grind [an2]
  | none=>
  rw [ah] at h;simp only at h;split at h
  ·rename_i s hT;split at h
   ·rename_i l o ab aa;simp only [Ac.val.injEq,A5] at h;obtain ⟨⟨h0,h1,h2⟩,rfl⟩:=h;cases hx;have q1:=ahv aj Z ab;have q2:=ahv ai O aa;have ao:(⟨s.toArray⟩:ByteArray).size=s.length:=by show s.toArray.size=_;simp
    have hr:=aib (Γ:=Γ) (w:=w) false s.length s.length I H l o q1 q2 h0 h1 h2 (Nat.le_refl _);refine ⟨_,?_,.str (s:=(s.take o.toNat).drop l.toNat)⟩;simp only [Instr.sliceAt,Sem.run_bind,run_underlying hT,Result.andThen_ok,Instr.slice,ao,Option.isSome_none,A6,A8,Sem.run_pure,ByteArray.extract_mk,List.drop_take];rw [hr];rfl
   ·simp at h
  ·rename_i x0 _ _ E hT;split at h
   ·rename_i xs hl;split at h
    ·rename_i l o ab aa;cases he:(amk Γ.P E x0&&!(Nat.beq (Γ.P.cellsOf E) 0)) with
     | false=>grind
     | true=>
      rw [he] at h;simp only [Af,Ac.val.injEq,A5] at h;obtain ⟨⟨h0,h1,h2⟩,rfl⟩:=h;simp only [Aj,Bool.not_eq_true'] at he;have ak:Γ.P.cellsOf E≠0:=λe=>by simp_all
      have an:=akx hx hl he.1;have q1:=ahv aj Z ab;have q2:=ahv ai O aa;cases an with
      | @nil ad cp aq=>
       have e1:o=0:=by grind
       have e2:l=0:=by omega
       subst e1;subst e2;obtain ⟨ap,M,hs⟩:=aa7 ak;have hr:=aib (Γ:=Γ) (w:=w) true 0 cp I H 0 0 q1 (by simpa using q2) (by omega) (by omega) (by omega) (Nat.zero_le _);refine ⟨.slice (if cp=0 then ad else ad.map (·.add (0*Γ.P.cellsOf E))) 0 cp,?_,.slice (.nil λhe=>?_)⟩
       ·simp only [Instr.sliceAt,Sem.run_bind,run_underlying hT,Result.andThen_ok,Instr.slice,hr,aa5 M hs];rfl
       ·by_cases hc:cp=0;all_goals simp_all
      | @mk b off cap _ L ag hL al ae=>
       obtain ⟨ap,M,hs⟩:=aa7 ak;have hr:=aib (Γ:=Γ) (w:=w) true xs.length cap I H l o q1 q2 h0 h1 h2 ag;have J:((xs.take o.toNat).drop l.toNat).length=o.toNat-l.toNat:=by simp;omega
       by_cases e:cap=l.toNat
       ·have e0:o.toNat-l.toNat=0:=by omega
        have e1:(xs.take o.toNat).drop l.toNat=[]:=Bc (by omega);refine ⟨.slice (some ⟨b,off,none⟩) 0 0,?_,?_⟩
        ·simp only [Instr.sliceAt,Sem.run_bind,run_underlying hT,Result.andThen_ok,Instr.slice,hr,aa5 M hs,Sem.run_pure,Option.map_some,acb];grind
        ·rw [e1];exact .slice (.mk (xs:=[]) (L:=[]) (by simp) (by simp) (λi y hy=>by simp at hy) (λj v hj=>by simp at hj))
       refine ⟨.slice (some ⟨b,off+l.toNat*Γ.P.cellsOf E,none⟩) (o.toNat-l.toNat) (cap-l.toNat),?_,?_⟩
       ·simp only [Instr.sliceAt,Sem.run_bind,run_underlying hT,Result.andThen_ok,Instr.slice,hr,aa5 M hs,Sem.run_pure,Option.map_some,acb];rw [if_neg e]
       ·rw [<-J];refine .slice (.mk (L:=(L.drop (l.toNat*Γ.P.cellsOf E)).take ((o.toNat-l.toNat)*Γ.P.cellsOf E)) (by rw [J];omega) ?_ (λi y hy=>?_) (ae.sub _ _))
        ·rw [J];have:o.toNat*Γ.P.cellsOf E<=xs.length*Γ.P.cellsOf E:=Aw _ (by omega);grind [Nat.sub_mul,List.length_take,List.length_drop]
        ·have ar:i<o.toNat-l.toNat:=by grind
         rw [List.getElem?_drop,List.getElem?_take_of_lt (by omega)] at hy;have:=al _ _ hy;rw [Nat.add_mul] at this;rw [List.drop_take,List.take_take,Bp,Nat.min_eq_left]
         ·exact this
         ·have h4:(i+1)*Γ.P.cellsOf E<=(o.toNat-l.toNat)*Γ.P.cellsOf E:=Aw _ (by omega);grind
    ·simp at h
   ·simp at h
  ·simp at h
theorem a00 (hw:WRel Γ D ow μ st w) (T:TypeId) (x:SV) (xv:Value) (v:SV) (I:SRep Γ.P D w ow μ st x xv) (h:ap6 Γ.P T st x=.val true v) (ty:TypeId):
 ∃ u,(Builtin.len_ #[T] ty #[xv]).run Γ.P w=.ok u w/\SRep Γ.P D w ow μ st v u:=by
 unfold ap6 at h
 split at h
 ·rename_i s o;simp only [Ac.val.injEq,true_and] at h;subst h;cases I;have J:(⟨s.toArray⟩:ByteArray).size=s.length:=by show s.toArray.size=_;simp
  exact ⟨.int .i64 s.length,by simp [Builtin.len_,run_underlying o,goInt,J],.int⟩
 ·rename_i E M xs o;simp only [Ac.val.injEq,true_and] at h;subst h;cases I with
  | slice O=>cases O<;>exact ⟨_,by simp [Builtin.len_,run_underlying o,goInt],.int⟩
 ·rename_i E k g M xs o;simp only [Ac.val.injEq,true_and] at h;subst h;cases I with
  | acc O=>cases O<;>exact ⟨_,by simp [Builtin.len_,run_underlying o,goInt],.int⟩
 ·rename_i E M xs o;simp only [Ac.val.injEq,true_and] at h;subst h;cases I with
  | lit O=>exact ⟨_,by simp [Builtin.len_,run_underlying o,goInt],.int⟩
 ·rename_i E o;simp only [Ac.val.injEq,true_and] at h;subst h;cases I;exact ⟨_,by simp [Builtin.len_,run_underlying o,goInt],.int⟩
 ·rename_i E k g M o;split at h
  ·rename_i xs aa;have Z:=adr aa;simp only [Ac.val.injEq,true_and] at h;subst h;cases I with
   | arrOld H hg=>grind
   | arrNil H=>rw [Z] at H;cases H;exact ⟨_,by simp [Builtin.len_,run_underlying o,goInt],.int⟩
   | arr H=>rw [Z] at H;cases H;exact ⟨_,by simp [Builtin.len_,run_underlying o,goInt],.int⟩
  ·cases h
 ·rename_i K E K' M es o;simp only [Ac.val.injEq,true_and] at h;subst h;cases I with
  | map O=>
   cases O with
   | nil=>exact ⟨_,by simp [Builtin.len_,run_underlying o,goInt],.int⟩
   | mk kc vc hh hd J=>exact ⟨.int .i64 es.length,by simp [Builtin.len_,run_underlying o,goInt,getObj,Sem.run,hh,J],.int⟩
 ·rename_i K E k o;split at h
  ·rename_i K' M es H;simp only [Ac.val.injEq,true_and] at h;subst h;cases I;obtain ⟨ents,clock,kc,vc,h1,_,_,h4,_⟩:=hw.map k K' M es H;exact ⟨.int .i64 es.length,by simp [Builtin.len_,run_underlying o,goInt,getObj,Sem.run,h1,h4],.int⟩
  ·simp at h
 ·simp at h
theorem atx (S:TypeId) (i:Nat) (a:SV) (av:Value) (v:SV) (ha:SRep Γ.P D w ow μ st a av) (h:aiu Γ.P S i a=.val true v):
 ∃ u,(Instr.field S av i).run Γ.P w=.ok u w/\SRep Γ.P D w ow μ st v u:=by
 unfold aiu at h
 split at h
 ·rename_i fs hS;split at h
  ·rename_i f hf;cases hc:(acf Γ.P S&&aa4 Γ.P f.type) with
   | false=>grind
   | true=>
    rw [hc] at h;simp only [Af] at h;simp only [Aj,aa4,Bool.not_eq_true',Bd] at hc;obtain ⟨hL,⟨ah,aa⟩,ab⟩:=hc;have hL:=acg hL hS;have key:∀ cs:List Value,cs.length=Γ.P.cellsOf S->(Instr.field S (.agg cs.toArray) i).run Γ.P w=.ok (pack Γ.P f.type ((cs.drop f.offset).take (Γ.P.cellsOf f.type))) w:=by intro cs hl;have hp:=aqo aa cs f.offset (by rw [hl];exact hL.inside i f hf) (ab.imp id Ae) w;simp only [Instr.field,Sem.run_bind,run_underlying hS,Result.andThen_ok,hf,asAgg,Sem.run_pure];exact hp
    split at h
    ·rename_i T pv;cases I:Nat.beq S T with
     | false=>grind
     | true=>
      rw [I] at h;simp only [Af,Ac.val.injEq,true_and] at h;have:=Ae I;subst this;subst h;cases ha with
      | @data _ _ cs H hr=>
       refine ⟨_,key cs (hr.aggLen H),?_⟩;cases hr with
       | @agg _ Z O _ o ad af ag J=>
        rw [hS] at o;cases o;have ae:i<O.length:=by grind
        have M:O[i]?=some O[i]:=As ae;rw [apx M];exact (J i O[i] f M hf).ofPV
       | arr o=>grind
       | bool o=>grind
       | int o=>grind
       | str o=>grind
       | nil o=>grind
       | slice o=>grind
       | mapnil o=>grind
       | map _ _ o=>grind
       | raw J=>grind [rawT]
    ·rename_i T O;cases I:Nat.beq S T with
     | false=>grind
     | true=>
      rw [I] at h;simp only [Af] at h;have:=Ae I;subst this;split at h
      ·rename_i x hx;simp only [Ac.val.injEq,true_and] at h;subst h;cases ha with
       | @agg _ Z _ cs o ad af ag ai=>grind
      ·simp at h
    ·simp at h
  ·simp at h
 ·simp at h
end
end Go.Ab
