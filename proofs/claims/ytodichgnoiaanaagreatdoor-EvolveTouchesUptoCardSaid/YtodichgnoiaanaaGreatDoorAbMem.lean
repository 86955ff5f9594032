/- Operations that read memory. -/
import Derived.Test.YtodichgnoiaanaaGreatDoorAbAct
set_option linter.unusedVariables false
set_option linter.unusedSimpArgs false
set_option linter.unnecessarySimpa false
namespace Go.Ab
open Go
theorem ad5 {P:Program}{T:TypeId} (o:(P.underlying T).isSome=true) (w:World) (b off:Nat) (cs:List Value) (J:∀ j v,cs[j]?=some v->w.cell? ⟨b,off+j,none⟩=some v)
 (I:aaj P T=true->cs.length=P.cellsOf T) (H:aaj P T=false->∃ u,cs=[u]):(loadVar T ⟨b,off,none⟩).run P w=.ok (pack P T cs) w:=by
 unfold loadVar
 simp only [Sem.run_bind,alq o,Result.andThen_ok]
 cases h:aaj P T with
 | true=>
  obtain ⟨d,M⟩:=Option.isSome_iff_exists.1 o
  obtain ⟨i,O,Z⟩:=akb M
  have z:=run_loadCells_list (P:=P) w ⟨b,off,none⟩ cs (λj v hj=>by grind [abo])
  rw [I h] at z
  simp only [A9,Sem.run_bind,aau O Z,Result.andThen_ok,z,pack,h]
  rfl
 | false=>
  obtain ⟨u,rfl⟩:=H h
  have:=J 0 u rfl
  simp only [Nat.add_zero] at this
  simp [this,pack,h]
section
variable {Γ:Ctx}{D:Dom}{ow:Own}{μ:Nat->Nat}{st:List BX}{w:World}
theorem Rep.single {P:Program}{T:TypeId}{v:PV}{cs:List Value} (h:Rep P D w T v cs) (z:aaj P T=false):∃ u,cs=[u]:=by
 cases h with
 | agg o=>grind [aaj]
 | arr o=>grind [aaj]
 | _=>exact ⟨_,rfl⟩
theorem a8j {o:Type}{l:List o}{i:Nat}{d:o} (h:i<l.length):l[i]?=some (l.getD i d):=by grind
theorem ank {P:Program}{TB E:TypeId}{n:Nat}{I:PV}{o:List Value} (J:P.underlying TB=some (.array n E)) (h:SRep P D w ow μ st (.data TB I) (pack P TB o)) (hl:o.length=P.cellsOf TB):
 I=.agg I.parts/\I.parts.length=n/\o.length=P.cellsOf TB/\(∀ c,c∈o->c.oneCell'=true)/\∀ (i:Nat) (x:PV),I.parts[i]?=some x->Rep P D w E x ((o.drop (i*P.cellsOf E)).take (P.cellsOf E)):=by
 have O:aaj P TB=true:=by simp [aaj,J]
 simp only [pack,O,A9] at h
 generalize M:Value.agg o.toArray=v at h
 cases h with
 | data _ Z=>
  simp only [Value.agg.injEq] at M
  have H:=congrArg Array.toList M
  simp only [List.toList_toArray] at H
  subst H
  cases Z with
  | agg z=>grind
  | arr z l1 o1 v1 r1=>rw [J] at z;cases z;exact ⟨rfl,v1,l1,o1,r1⟩
  | raw z=>grind [rawT]
  | bool z=>grind
  | int z=>grind
  | str z=>grind
  | nil z=>grind
  | slice z=>grind
  | mapnil z=>grind
  | map _ _ z=>grind
theorem abw {k g:Nat}{E:TypeId}{xs:List PV} (h:aee st k g E=some xs):st[k]?=some (.arr E g xs):=by
 unfold aee at h;split at h
 ·rename_i o z xs' I;cases H:(Nat.beq g z&&Nat.beq E o) with
  | false=>grind
  | true=>simp_all
 ·cases h
theorem ax4 (hw:WRel Γ D ow μ st w) {k g i:Nat}{E:TypeId}{xs:List PV}{cur:Array Value} (Z:st[k]?=some (.arr E g xs)) (O:i<xs.length) (M:w.heap[μ k]?=some (.cells cur E (0,0))):
 (i+1)*Γ.P.cellsOf E<=cur.size/\(∀ o,¬D (μ k) o)/\Rep Γ.P D w E (xs.getD i .bad) ((cur.toList.drop (i*Γ.P.cellsOf E)).take (Γ.P.cellsOf E)):=by
 rcases hw.obj k _ Z with h | ⟨z,H,h2,I,J,h5⟩
 ·grind
 ·rw [M] at H;cases H;have aa:xs[i]?=some xs[i]:=Am O;have hd:xs.getD i PV.bad=xs[i]:=by grind
  refine ⟨Nat.le_trans (Au _ (by omega)) J,I,?_⟩;grind
theorem a0j (hw:WRel Γ D ow μ st w) (T:TypeId) (a:SV) (ad:Value) (v:SV) (H:SRep Γ.P D w ow μ st a ad) (h:ahb Γ.P T st a=.val true v):
 ∃ u,(Instr.loadAt T ad).run Γ.P w=.ok u w/\SRep Γ.P D w ow μ st v u:=by
 unfold ahb at h
 split at h
 ·rename_i O pv;cases z:(Nat.beq T O&&(Γ.P.underlying T).isSome) with
  | false=>grind
  | true=>
   rw [z] at h;simp only [Aj] at z;have:=Ae z.1;subst this;simp only [Af,Ac.val.injEq,true_and] at h;subst h;cases H with
   | @pto _ _ b off cs hh Z=>refine ⟨_,?_,Z.ofPV⟩;simp only [Instr.loadAt,Instr.sureAddr,Sem.run_bind,Sem.run_pure,Result.andThen_ok];exact ad5 z.2 w b off cs (λj v hj=>(hh j v hj).2) (λH=>Z.aggLen H) (λH=>Z.single H)
 ·rename_i k path O;cases z:(Nat.beq T O&&(Γ.P.underlying T).isSome) with
  | false=>grind
  | true=>
   rw [z] at h;simp only [Aj] at z;have:=Ae z.1;subst this;simp only [Af] at h;cases H with
   | @ref _ _ _ TB s off I hp=>
    rw [I] at h;simp only at h;cases h1:(aaj Γ.P T||Nat.beq (Γ.P.cellsOf T) 1) with
    | false=>grind
    | true=>
     rw [h1] at h;simp only [Af] at h;cases hg:ahv Γ.P TB s path with
     | none=>grind
     | some x=>
      rw [hg] at h;simp only [Ac.val.injEq,true_and] at h;subst h;obtain ⟨o,O,q1,q2,q3,q4,q5⟩:=hw.box k TB s I;obtain ⟨r1,r2⟩:=aj9 path TB s o off T x q5 q2 hp hg;refine ⟨_,?_,r1⟩;have J:((o.drop off).take (Γ.P.cellsOf T)).length=Γ.P.cellsOf T:=by simp;omega
      simp only [Instr.loadAt,Instr.sureAddr,Sem.run_bind,Sem.run_pure,Result.andThen_ok];refine ad5 z.2 w (μ k) off _ (λj v hj=>?_) (λ_=>J) (λH=>?_)
      ·grind [List.getElem?_eq_some_iff,List.getElem?_take_of_lt,World.cell?]
      ·rw [H] at h1;simp at h1;rw [h1] at J ⊢;match (o.drop off).take 1,J with
       | [u],_=>grind
 ·rename_i k i E;cases z:(Nat.beq T E&&aa0 Γ.P E) with
  | false=>grind
  | true=>
   rw [z] at h;simp only [Af] at h;simp only [Aj,aa0] at z;have:=Ae z.1;subst this;cases H with
   | @eref _ _ n _ TB s I hT hi=>
    rw [I] at h;split at h;case h_2=>cases h
    rename_i aj ab pv he;cases he;cases hc:(Nat.beq TB ab&&as7 Γ.P TB T) with
    | false=>grind
    | true=>
     rw [hc] at h;simp only [Af,Ac.val.injEq,true_and] at h;subst h;simp only [Aj] at hc;have:=Ae hc.1;subst this;obtain ⟨o,O,q1,q2,q3,q4,q5⟩:=hw.box k TB _ I;obtain ⟨a1,a2,a3,a4,a5⟩:=ank hT q5 q2;have ai:pv.parts[i]?=some (pv.fld i):=by grind [PV.fld,a8j]
     have Z:=a5 i _ ai;refine ⟨_,?_,Z.ofPV⟩;simp only [Instr.loadAt,Instr.sureAddr,Sem.run_bind,Sem.run_pure,Result.andThen_ok];refine ad5 z.2.1.2 w (μ k) _ _ (λj v hj=>?_) (λH=>Z.aggLen H) (λH=>Z.single H);grind [List.getElem?_eq_some_iff,List.length_take,List.getElem?_take_of_lt,World.cell?]
 ·rename_i k g i E path O;cases z:(Nat.beq T O&&aa0 Γ.P E&&aa0 Γ.P T) with
  | false=>grind
  | true=>
   rw [z] at h;simp only [Af] at h;simp only [Aj,aa0,Bool.not_eq_true',Bc] at z;obtain ⟨⟨af,⟨ak,al⟩,am⟩,⟨an,ag⟩,ah⟩:=z;have:=Ae af;subst this;split at h;case h_2=>cases h
   rename_i xs ae;have aa:=abw ae;cases H with
   | arefOld I hg=>grind
   | @aref _ _ _ off _ _ _ ao cur I hi hp hc ho=>
    rw [aa] at I;cases I;obtain ⟨a1,a2,a3⟩:=ax4 hw aa hi hc;cases hg:ahv Γ.P E (ofPV Γ.P E (xs.getD i .bad)) path with
    | none=>grind
    | some x=>
     rw [hg] at h;simp only [Ac.val.injEq,true_and] at h;subst h;have M:((cur.toList.drop (i*Γ.P.cellsOf E)).take (Γ.P.cellsOf E)).length=Γ.P.cellsOf E:=by grind
     obtain ⟨r1,r2⟩:=aj9 (ow:=ow) (μ:=μ) (st:=st) path E _ _ off T x a3.ofPV M hp hg;refine ⟨_,?_,r1⟩;simp only [Instr.loadAt,Instr.sureAddr,Sem.run_bind,Sem.run_pure,Result.andThen_ok];rw [M] at r2;have J:(((cur.toList.drop (i*Γ.P.cellsOf E)).take (Γ.P.cellsOf E)).drop off |>.take (Γ.P.cellsOf T)).length=Γ.P.cellsOf T:=by grind
     refine ad5 ag w (μ k) _ _ (λj v hj=>?_) (λ_=>J) (λH=>?_)
     ·grind [List.getElem?_eq_some_iff,List.getElem?_take_of_lt,World.cell?,Nat.add_assoc]
     ·rcases ah with h7 | h7
      ·grind
      ·have h7:=Ae h7;generalize (((cur.toList.drop (i*Γ.P.cellsOf E)).take (Γ.P.cellsOf E)).drop off |>.take (Γ.P.cellsOf T))=l at J ⊢;rw [h7] at J;match l,J with
       | [u],_=>grind
 ·simp at h
theorem ah2 {P:Program}:∀ (path:List Nat) (TB:TypeId) (off:Nat) (S:TypeId) (i:Nat) (z:Array Field) (f:Field),ab2 P TB path=some (off,S)->aggF P S=some z->z[i]?=some f->
 ab2 P TB (path++[i])=some (off+f.offset,f.type):=by
 intro path
 induction path with
 | nil=>
  intro TB off S i z f h H J
  simp [ab2] at h
  obtain ⟨rfl,rfl⟩:=h
  grind [ab2]
 | cons j p ih=>
  intro TB off S i z f h H J
  unfold ab2 at h
  cases I:aggF P TB with
  | none=>grind
  | some Z=>
   rw [I] at h
   simp only at h
   cases M:Z[j]? with
   | none=>grind
   | some g=>
    rw [M] at h
    simp only at h
    cases O:ab2 P g.type p with
    | none=>grind
    | some r=>
     obtain ⟨o,t⟩:=r
     rw [O] at h
     simp at h
     obtain ⟨rfl,rfl⟩:=h
     have:=ih g.type o t i z f O H J
     simp only [Bl,ab2,I,M,this,Option.map_some,Nat.add_assoc]
theorem Held.sub {b off:Nat}{cs:List Value} (h:Held D w b off cs) (o n:Nat):Held D w b (off+o) ((cs.drop o).take n):=by
 intro j v H;by_cases z:j<n
 ·rw [List.getElem?_take_of_lt z,List.getElem?_drop] at H;have:=h _ v H;grind
 grind
theorem an0 (S:TypeId) (i:Nat) (a:SV) (ad:Value) (v:SV) (ha:SRep Γ.P D w ow μ st a ad) (h:acv Γ.P st S i a=.val true v):
 ∃ u,(Instr.fieldAt S ad i).run Γ.P w=.ok u w/\SRep Γ.P D w ow μ st v u:=by
 unfold acv at h
 split at h
 ·rename_i fs I;split at h
  ·rename_i f J;cases h0:Nat.beq (Γ.P.cellsOf f.type) 0 with
   | true=>grind
   | false=>
    rw [h0] at h;simp only [Ah] at h;have O:Γ.P.cellsOf f.type≠0:=λe=>by simp_all
    obtain ⟨ai,hi,hs⟩:=aav O;have o:∀ b off:Nat,(fieldPlace ⟨b,off,none⟩ f).run Γ.P w=.ok ⟨b,off+f.offset,none⟩ w:=by intro b off;simp [fieldPlace,aau hi hs,O,abo]
    split at h
    ·rename_i T pv;cases H:Nat.beq S T with
     | false=>grind
     | true=>
      rw [H] at h;simp only [Af,Ac.val.injEq,true_and] at h;have:=Ae H;subst this;subst h;cases ha with
      | @pto _ _ b off cs hh hr=>
       refine ⟨.pointer (some ⟨b,off+f.offset,none⟩),by simp [Instr.fieldAt,run_underlying I,J,Instr.sureAddr,o],?_⟩;cases hr with
       | @agg _ ae vs _ z af ag ah Z=>
        rw [I] at z;cases z;have ab:i<vs.length:=by grind
        have aa:vs[i]?=some vs[i]:=Am ab;rw [arj aa];exact .pto (hh.sub _ _) (Z i vs[i] f aa J)
       | arr z=>grind
       | bool z=>grind
       | int z=>grind
       | str z=>grind
       | nil z=>grind
       | slice z=>grind
       | mapnil z=>grind
       | map _ _ z=>grind
       | raw Z=>grind [rawT]
    ·rename_i k path T;cases H:Nat.beq S T with
     | false=>grind
     | true=>
      rw [H] at h;simp only [Af,Ac.val.injEq,true_and] at h;have:=Ae H;subst this;subst h;cases ha with
      | @ref _ _ _ TB s off M hp=>refine ⟨.pointer (some ⟨μ k,off+f.offset,none⟩),by simp [Instr.fieldAt,run_underlying I,J,Instr.sureAddr,o],?_⟩;exact .ref M (ah2 path TB off S i fs f hp (abd I) J)
    ·rename_i k T;cases H:(Nat.beq S T&&Nat.beq f.offset 0) with
     | false=>grind
     | true=>
      rw [H] at h;simp only [Af,Ac.val.injEq,true_and] at h;simp only [Aj] at H;have h0:=Ae H.2;subst h;cases ha with
      | bref M=>refine ⟨.pointer (some ⟨μ k,0+f.offset,none⟩),by simp [Instr.fieldAt,run_underlying I,J,Instr.sureAddr,o],?_⟩;rw [h0];exact .bref M
    ·rename_i k g j E path T;cases H:(Nat.beq S T&&afn st k g) with
     | false=>grind
     | true=>
      rw [H] at h;simp only [Af,Ac.val.injEq,true_and] at h;simp only [Aj] at H;have:=Ae H.1;subst this;subst h;cases ha with
      | arefOld M hg h1=>grind [afn,Nat.eq_of_beq_eq_true]
      | @aref _ _ _ off _ _ _ xs cur M hi hp hc ho=>refine ⟨.pointer (some ⟨μ k,j*Γ.P.cellsOf E+off+f.offset,none⟩),by simp [Instr.fieldAt,run_underlying I,J,Instr.sureAddr,o],?_⟩;rw [Nat.add_assoc];exact .aref M hi (ah2 path E off S i fs f hp (abd I) J) hc ho
    ·simp at h
  ·simp at h
 ·simp at h
theorem alt {E:TypeId}{x:SV}{v:Value}{xs:List PV} (z:SRep Γ.P D w ow μ st x v) (o:ame x=some xs) (H:al9 Γ.P E x=true):SliceRep Γ.P D w E xs v:=by
 unfold ame at o;split at o
 ·cases o;cases z with | slice h=>have:=Ae H;grind
 ·cases o;cases z with | acc h=>have:=Ae H;grind
 ·cases o;cases z with | lit h=>have:=Ae H;grind
 ·cases o;cases z with | sln h=>have:=Ae H;grind
 ·cases o;cases z;exact .nil λ_=>rfl
 ·simp at o
theorem aq1 (T:TypeId) (x i:SV) (xv Z:Value) (hx:SRep Γ.P D w ow μ st x xv) (hi:SRep Γ.P D w ow μ st i Z) {r:Bool×SV} (h:ani Γ.P T x i=some r) (h1:r.1=true):
 ∃ u,(Instr.indexAt T xv Z).run Γ.P w=.ok u w/\SRep Γ.P D w ow μ st r.2 u:=by
 unfold ani at h
 split at h
 case h_2=>cases h
 rename_i n E k T' ki o J
 cases H:(Nat.beq T T'&&aa0 Γ.P E) with
 | false=>grind
 | true=>
  rw [H] at h
  simp only [Af,Ak] at h
  subst h
  simp only [Aj,aa0,Bool.not_eq_true'] at H
  have:=Ae H.1;subst this
  have I:Γ.P.cellsOf E≠0:=λe=>by simp_all
  obtain ⟨aa,z,hs⟩:=aav I
  have O:0<=o/\o<(n:Int):=by grind [aab]
  cases hi
  cases hx with
  | ref hk M=>
   simp only [ab2,Ak,Prod.mk.injEq] at M
   obtain ⟨rfl,rfl⟩:=M
   refine ⟨.pointer (some ⟨μ k,o.toNat*Γ.P.cellsOf E,none⟩),?_,.eref hk J (by omega)⟩
   simp [Instr.indexAt,asIntOf,Instr.sureAddr,run_underlying J,O.1,O.2,aau z hs,abo]
theorem aq2 (T:TypeId) (Z:Bool) (x i:SV) (xv iv:Value) (hx:SRep Γ.P D w ow μ st x xv) (hi:SRep Γ.P D w ow μ st i iv) {r:Bool×SV} (h:anj Γ.P T Z x i=some r):
 ∃ u,(Instr.indexAt T xv iv).run Γ.P w=.ok u w/\SRep Γ.P D w ow μ st r.2 u:=by
 unfold anj at h
 cases Z with
 | false=>cases h
 | true=>
 simp only [Ay,Ah] at h
 split at h
 case h_2=>cases h
 rename_i n E k path T' ki o hT
 split at h
 case h_2=>cases h
 rename_i I M
 cases J:(Nat.beq T T'&&aa0 Γ.P E&&decide (0<=o)&&Nat.blt o.toNat n) with
 | false=>grind
 | true=>
  rw [J] at h
  simp only [Af,Ak] at h
  subst h
  simp only [Aj,aa0,Bool.not_eq_true',A4] at J
  obtain ⟨⟨⟨b1,b2⟩,b3⟩,b4⟩:=J
  have:=Ae b1;subst this
  have O:Γ.P.cellsOf E≠0:=λe=>by simp_all
  obtain ⟨ad,H,hs⟩:=aav O
  have aa:o.toNat<n:=by simpa using b4
  have hr:o<(n:Int):=by omega
  cases hi
  obtain ⟨ab,z⟩:=ajy M
  have hf:I[o.toNat]?=some I[o.toNat]:=Array.getElem?_eq_getElem (by omega)
  obtain ⟨_,q1,q2⟩:=z _ _ hf
  have hA:aggF Γ.P T=some I:=by grind [aggF]
  cases hx with
  | @ref _ _ _ TB v off hk hp=>
   refine ⟨.pointer (some ⟨μ k,off+o.toNat*Γ.P.cellsOf E,none⟩),?_,.ref hk ?_⟩
   ·simp [Instr.indexAt,asIntOf,Instr.sureAddr,run_underlying hT,b3,hr,aau H hs,abo]
   grind [ah2]
theorem asg (T:TypeId) (x i:SV) (xv iv:Value) (hx:SRep Γ.P D w ow μ st x xv) (hi:SRep Γ.P D w ow μ st i iv) {r:Bool×SV} (h:ag4 Γ.P T st x i=some r) (h1:r.1=true):
 ∃ u,(Instr.indexAt T xv iv).run Γ.P w=.ok u w/\SRep Γ.P D w ow μ st r.2 u:=by
 unfold ag4 at h
 split at h
 case h_3=>cases h
 case h_2=>
  rename_i E k g lo Z ki n hT
  split at h
  case h_2=>cases h
  rename_i xs I
  have z:=abw I
  cases J:(Nat.beq E Z&&aa0 Γ.P E) with
  | false=>grind
  | true=>
   rw [J] at h
   simp only [Af,Ak] at h
   subst h
   simp only [Aj,aa0,Bool.not_eq_true'] at J
   have:=Ae J.1;subst this
   have M:Γ.P.cellsOf E≠0:=λe=>by simp_all
   obtain ⟨ad,o,hs⟩:=aav M
   have O:0<=n/\n<((xs.length-lo:Nat):Int):=by grind [aab]
   cases hi
   cases hx with
   | avwOld H hg=>grind
   | avw H ae hl aa hc ho ab=>
    rw [z] at H;cases H
    refine ⟨.pointer (some ⟨μ k,lo*Γ.P.cellsOf E+n.toNat*Γ.P.cellsOf E,none⟩),?_,?_⟩
    ·simp [Instr.indexAt,asIntOf,run_underlying hT,O.1,O.2,aau o hs,abo]
    ·have:=SRep.aref (P:=Γ.P) (D:=D) (w:=w) (ow:=ow) (μ:=μ) (st:=st) (i:=lo+n.toNat) (off:=0) (T:=E) (path:=[]) z (by omega) rfl hc ho;grind
 rename_i E k g Z ki n hT
 split at h
 case h_2=>cases h
 rename_i xs I
 have z:=abw I
 cases J:(Nat.beq E Z&&aa0 Γ.P E) with
 | false=>grind
 | true=>
  rw [J] at h
  simp only [Af,Ak] at h
  subst h
  simp only [Aj,aa0,Bool.not_eq_true'] at J
  have:=Ae J.1;subst this
  have M:Γ.P.cellsOf E≠0:=λe=>by simp_all
  obtain ⟨ad,o,hs⟩:=aav M
  have O:0<=n/\n<(xs.length:Int):=by grind [aab]
  cases hi
  cases hx with
  | arrOld H hg=>grind
  | arrNil H=>grind
  | arr H hl aa hc ho ab=>
   rw [z] at H;cases H
   refine ⟨.pointer (some ⟨μ k,0+n.toNat*Γ.P.cellsOf E,none⟩),?_,?_⟩
   ·simp [Instr.indexAt,asIntOf,run_underlying hT,O.1,O.2,aau o hs,abo]
   ·have:=SRep.aref (P:=Γ.P) (D:=D) (w:=w) (ow:=ow) (μ:=μ) (st:=st) (i:=n.toNat) (off:=0) (T:=E) (path:=[]) z (by omega) rfl hc ho;grind
theorem an6 (T:TypeId) (x i:SV) (xv iv:Value) (v:SV) (hx:SRep Γ.P D w ow μ st x xv) (hi:SRep Γ.P D w ow μ st i iv) (h:acx Γ.P T st x i=.val true v):
 ∃ u,(Instr.indexAt T xv iv).run Γ.P w=.ok u w/\SRep Γ.P D w ow μ st v u:=by
 unfold acx at h
 cases z:ani Γ.P T x i with
 | some r=>
  rw [z] at h
  simp only [Ac.val.injEq] at h
  obtain ⟨h1,rfl⟩:=h
  grind [aq1]
 | none=>
 rw [z] at h
 simp only at h
 cases H:ag4 Γ.P T st x i with
 | some r=>
  rw [H] at h
  simp only [Ac.val.injEq] at h
  obtain ⟨h1,rfl⟩:=h
  grind [asg]
 | none=>
 rw [H] at h
 simp only at h
 split at h
 ·rename_i E xs k n hT hl;cases M:(al9 Γ.P E x&&!(Nat.beq (Γ.P.cellsOf E) 0)) with
  | false=>grind
  | true=>
   rw [M] at h;simp only [Af,Ac.val.injEq] at h;obtain ⟨h1,rfl⟩:=h;simp only [Aj,Bool.not_eq_true'] at M;have Z:Γ.P.cellsOf E≠0:=λe=>by simp_all
   obtain ⟨ae,I,hs⟩:=aav Z;have aa:=alt hx hl M.1;have hr:0<=n/\n<(xs.length:Int):=by grind [aab]
   cases hi;cases aa with
   | nil=>grind
   | @mk b off cap _ L ad hL J o=>
    have O:n.toNat<xs.length:=by omega
    have ab:xs[n.toNat]?=some xs[n.toNat]:=Am O;have hd:xs.getD n.toNat PV.bad=xs[n.toNat]:=by grind
    refine ⟨.pointer (some ⟨b,off+n.toNat*Γ.P.cellsOf E,none⟩),?_,?_⟩
    ·simp [Instr.indexAt,asIntOf,run_underlying hT,hr.1,hr.2,aau I hs,abo]
    ·rw [hd];exact .pto (o.sub _ _) (J _ _ ab)
 ·simp at h
theorem awm (T:TypeId) (x i:SV) (xv iv:Value) (v:SV) (hx:SRep Γ.P D w ow μ st x xv) (hi:SRep Γ.P D w ow μ st i iv) (h:ajl Γ.P T x i=.val true v):
 ∃ u,(Instr.index T xv iv).run Γ.P w=.ok u w/\SRep Γ.P D w ow μ st v u:=by
 unfold ajl at h
 split at h
 ·rename_i s k n Z;simp only [Ac.val.injEq] at h;obtain ⟨h1,rfl⟩:=h;have hr:0<=n/\n<(s.length:Int):=by grind [aab]
  cases hx;cases hi;have z:n.toNat<s.length:=by omega
  have e:(⟨s.toArray⟩:ByteArray)[n.toNat]?=some s[n.toNat]:=by rw [ByteArray.getElem?_lt' _ _ (by show n.toNat<s.toArray.size;simpa using z)];rfl
  have hd:s.getD n.toNat 0=s[n.toNat]:=by grind
  refine ⟨_,by simp [Instr.index,asIntOf,run_underlying Z,hr.1,e];rfl,?_⟩;rw [hd];exact .int
 ·rename_i m E T' pv k n Z;cases hb:(Nat.beq T T'&&aa0 Γ.P E&&Nat.beq (Γ.P.cellsOf T) (m*Γ.P.cellsOf E)) with
  | false=>grind
  | true=>
   rw [hb] at h;simp only [Af,Ac.val.injEq] at h;obtain ⟨h1,rfl⟩:=h;simp only [Aj,aa0,Bool.not_eq_true',Bc] at hb;obtain ⟨⟨aa,⟨aj,ab⟩,ad⟩,ae⟩:=hb;have:=Ae aa;subst this;have ag:Γ.P.cellsOf E≠0:=λe=>by simp_all
   obtain ⟨am,I,hs⟩:=aav ag;have ah:=Ae ae;have hr:0<=n/\n<(m:Int):=by grind [aab]
   cases hi;cases hx with
   | @data _ _ cs ai M=>
    cases M with
    | @arr _ E2 m2 vs _ o af ak al J=>
     rw [Z] at o;cases o;have z:n.toNat<vs.length:=by omega
     have O:vs[n.toNat]?=some vs[n.toNat]:=Am z;have H:n.toNat*Γ.P.cellsOf E+Γ.P.cellsOf E<=cs.length:=by rw [af,ah];have:(n.toNat+1)*Γ.P.cellsOf E<=m*Γ.P.cellsOf E:=Au _ (by omega);grind
     have hp:=ash ab cs (n.toNat*Γ.P.cellsOf E) H (ad.imp id Ae) w;refine ⟨pack Γ.P E ((cs.drop (n.toNat*Γ.P.cellsOf E)).take (Γ.P.cellsOf E)),?_,?_⟩
     ·simp only [Instr.index,asIntOf,Sem.run_bind,Sem.run_pure,Result.andThen_ok,run_underlying Z];simp only [hr.1,hr.2,and_self,A9,Sem.run_bind,aau I hs,Result.andThen_ok];rw [hp]
     ·rw [arj O];exact (J _ _ O).ofPV
    | agg o=>grind
    | bool o=>grind
    | int o=>grind
    | str o=>grind
    | nil o=>grind
    | slice o=>grind
    | mapnil o=>grind
    | map _ _ o=>grind
    | raw J=>grind [rawT]
 ·simp at h
end
end Go.Ab
namespace Go.Ab
open Go
section
variable {Γ:Ctx}{D:Dom}{ow:Own}{μ:Nat->Nat}{st:List BX}{w:World}
theorem agt {x:Option SV}{xv:Option Value}{dflt n:Int} (z:∀ s v,x=some s->xv=some v->SRep Γ.P D w ow μ st s v) (o:x.isSome=xv.isSome) (h:bnd x dflt=some n):
 (xv=none/\n=dflt)\/∃ k,xv=some (.int k n):=by
 unfold bnd at h
 split at h
 ·simp_all
 ·rename_i k m;simp at h;subst h;cases xv with
  | none=>simp at o
  | some v=>have:=z _ v rfl rfl;cases this;grind
 ·simp at h
theorem akv (k:IntKind) (n:Int) (y:Nat) (h:BoundsCode) (o:0<=n) (z:n<=y):(Instr.sliceBound (.int k n) y h).run Γ.P w=.ok n.toNat w:=by simp only [Instr.sliceBound,asIntOf,Sem.run_bind,Sem.run_pure,Result.andThen_ok,o,z,and_self,A9]
theorem adm (o:Bool) (n cap:Nat) (H z:Option Value) (l h:Int) (hl:(H=none/\l=0)\/∃ k,H=some (.int k l)) (hh:(z=none/\h=n)\/∃ k,z=some (.int k h)) (M:0<=l) (h1:l<=h) (h2:h<=n) (hc:n<=cap):
 (Instr.sliceBounds o n cap H z none).run Γ.P w=.ok (l.toNat,h.toNat,cap) w:=by
 have I:0<=h:=by omega
 have J:h<=(cap:Int):=by omega
 have Z:l<=((h.toNat:Nat):Int):=by omega
 have a4:l<=((n:Nat):Int):=by omega
 rcases hh with ⟨rfl,rfl⟩ | ⟨k,rfl⟩<;>rcases hl with ⟨rfl,rfl⟩ | ⟨O,rfl⟩
 ·simp [Instr.sliceBounds]
 ·simp [Instr.sliceBounds,akv (Γ:=Γ) (w:=w) O l n _ M a4]
 ·simp [Instr.sliceBounds,akv (Γ:=Γ) (w:=w) k h cap _ I J]
 ·simp only [Instr.sliceBounds,Sem.run_bind,Sem.run_pure,Result.andThen_ok,akv (Γ:=Γ) (w:=w) k h cap _ I J,akv (Γ:=Γ) (w:=w) O l h.toNat _ M Z]
theorem apf (T:TypeId) (x:SV) (xv:Value) (lo hi:Option SV) (z o:Option Value) (hx:SRep Γ.P D w ow μ st x xv)
 (ad:∀ s u,lo=some s->z=some u->SRep Γ.P D w ow μ st s u) (J:lo.isSome=z.isSome) (ab:∀ s u,hi=some s->o=some u->SRep Γ.P D w ow μ st s u) (H:hi.isSome=o.isSome)
 {r:Bool×SV} (h:ajz Γ.P T x lo hi=some r) (M:r.1=true):∃ u,(Instr.sliceAt T xv z o none).run Γ.P w=.ok u w/\SRep Γ.P D w ow μ st r.2 u:=by
 unfold ajz at h
 split at h
 case h_2=>cases h
 rename_i n E k T' hT
 split at h
 case h_2=>cases h
 rename_i l hh aa Z
 cases O:(Nat.beq T T'&&aa0 Γ.P E) with
 | false=>grind
 | true=>
  rw [O] at h
  simp only [Af,Ak] at h
  subst h
  simp only [Aj,aa0,Bool.not_eq_true'] at O
  have:=Ae O.1;subst this
  have ae:Γ.P.cellsOf E≠0:=λe=>by simp_all
  obtain ⟨af,I,hs⟩:=aav ae
  simp only [A4] at M
  obtain ⟨h0,M,h2,h3⟩:=M
  have q1:=agt ad J aa
  have q2:=agt ab H Z
  have hr:=adm (Γ:=Γ) (w:=w) false n n z o l hh q1 q2 h0 h2 h3 (Nat.le_refl _)
  cases hx with
  | ref hk hp=>
   simp only [ab2,Ak,Prod.mk.injEq] at hp
   obtain ⟨rfl,rfl⟩:=hp
   refine ⟨.slice (some ⟨μ k,l.toNat*Γ.P.cellsOf E,none⟩) (hh.toNat-l.toNat) (n-l.toNat),?_,.asl hk hT (by omega) (by omega)⟩
   simp only [Instr.sliceAt,Instr.sureAddr,Sem.run_bind,run_underlying hT,Result.andThen_ok,Sem.run_pure,hr,aau I hs]
   rw [if_neg (by omega)]
   simp [abo]
theorem ath (hw:WRel Γ D ow μ st w) (M O:TypeId) (x:SV) (a:Value) (v:SV) (ha:SRep Γ.P D w ow μ st x a) (h:afg Γ.P st M O x=.val true v):∃ u,(convert M O a).run Γ.P w=.ok u w/\SRep Γ.P D w ow μ st v u:=by
 unfold afg at h;split at h;case h_2=>grind [azt]
 rename_i k J n E;split at h;case h_2=>cases h
 rename_i TB Z pv hd hk;cases hb:(Nat.beq TB Z&&as7 Γ.P TB E&&adx Γ.P M E) with
 | false=>grind
 | true=>
  rw [hb] at h;simp only [Af,Ac.val.injEq,true_and] at h;subst h;simp only [Aj] at hb;obtain ⟨⟨aa,H⟩,z⟩:=hb;have:=Ae aa;subst this;cases ha with
  | @asl _ _ _ m cap _ ae v2 I hT hl hc=>
   rw [hk] at I;simp only [Ak,BX.box.injEq] at I;obtain ⟨rfl,rfl⟩:=I;obtain ⟨o,T',q1,q2,q3,q4,q5⟩:=hw.box k TB _ hk;obtain ⟨a1,a2,a3,a4,a5⟩:=ank hT q5 q2;have ab:Γ.P.cellsOf E=1:=by unfold adx at z;simp only [Aj] at z;exact Ae z.2
   have af:Γ.P.cellsOf TB=m:=by unfold as7 at H;rw [hT] at H;simp only [Aj] at H;grind [Nat.eq_of_beq_eq_true]
   refine ⟨_,agu (D:=λ_ _=>True) z hd ?_,.str⟩;have ad:((pv.parts.drop J).take n).length=n:=by simp;omega
   have e:=SliceRep.mk (P:=Γ.P) (D:=λ_ _=>True) (w:=w) (E:=E) (b:=μ k) (off:=J*Γ.P.cellsOf E) (cap:=cap) (xs:=(pv.parts.drop J).take n) (L:=(o.drop J).take n) (by omega) (by grind) (λi x hx=>?_) (λj u hj=>⟨trivial,?_⟩)
   ·grind
   ·have hi:i<n:=by grind
    rw [List.getElem?_take_of_lt hi,List.getElem?_drop] at hx;have r:=a5 (J+i) x hx;rw [ab,Nat.mul_one] at r ⊢;have e2:(((o.drop J).take n).drop i).take 1=(o.drop (J+i)).take 1:=by grind [List.drop_take,List.drop_drop,Nat.min_eq_left]
    rw [e2];exact r.mono (λ_ _ _=>trivial) (Keeps.refl _ _)
   grind [List.getElem?_eq_some_iff,List.length_take,List.getElem?_take_of_lt,World.cell?]
theorem ao4 (T:TypeId) (x0:SV) (lo J mx:Option SV) (xv:Value) (H z ae:Option Value) (v:SV) (hx:SRep Γ.P D w ow μ st x0 xv)
 (ai:∀ s u,lo=some s->H=some u->SRep Γ.P D w ow μ st s u) (O:lo.isSome=H.isSome) (ah:∀ s u,J=some s->z=some u->SRep Γ.P D w ow μ st s u) (M:J.isSome=z.isSome) (al:mx.isSome=ae.isSome)
 (h:ah7 Γ.P T x0 lo J mx=.val true v):∃ u,(Instr.sliceAt T xv H z ae).run Γ.P w=.ok u w/\SRep Γ.P D w ow μ st v u:=by
 unfold ah7 at h
 split at h
 ·simp at h
 ·have hm:ae=none:=by simpa using al.symm
  subst hm;cases ag:ajz Γ.P T x0 lo J with
  | some r=>rw [ag] at h;simp only [Ac.val.injEq] at h;obtain ⟨h1,rfl⟩:=h;grind [apf]
  | none=>
  rw [ag] at h;simp only at h;split at h
  ·rename_i s hT;split at h
   ·rename_i l o aa Z;simp only [Ac.val.injEq,A4] at h;obtain ⟨⟨h0,h1,h2⟩,rfl⟩:=h;cases hx;have q1:=agt ai O aa;have q2:=agt ah M Z;have an:(⟨s.toArray⟩:ByteArray).size=s.length:=by show s.toArray.size=_;simp
    have hr:=adm (Γ:=Γ) (w:=w) false s.length s.length H z l o q1 q2 h0 h1 h2 (Nat.le_refl _);refine ⟨_,?_,.str (s:=(s.take o.toNat).drop l.toNat)⟩;simp only [Instr.sliceAt,Sem.run_bind,run_underlying hT,Result.andThen_ok,Instr.slice,an,Option.isSome_none,A8,Bb,Sem.run_pure,ByteArray.extract_mk,List.drop_take];rw [hr];rfl
   ·simp at h
  ·rename_i x0 _ _ E hT;split at h
   ·rename_i xs hl;split at h
    ·rename_i l o aa Z;cases he:(al9 Γ.P E x0&&!(Nat.beq (Γ.P.cellsOf E) 0)) with
     | false=>grind
     | true=>
      rw [he] at h;simp only [Af,Ac.val.injEq,A4] at h;obtain ⟨⟨h0,h1,h2⟩,rfl⟩:=h;simp only [Aj,Bool.not_eq_true'] at he;have aj:Γ.P.cellsOf E≠0:=λe=>by simp_all
      have am:=alt hx hl he.1;have q1:=agt ai O aa;have q2:=agt ah M Z;cases am with
      | @nil ad cp ap=>
       have e1:o=0:=by grind
       have e2:l=0:=by omega
       subst e1;subst e2;obtain ⟨ao,J,hs⟩:=aav aj;have hr:=adm (Γ:=Γ) (w:=w) true 0 cp H z 0 0 q1 (by simpa using q2) (by omega) (by omega) (by omega) (Nat.zero_le _);refine ⟨.slice (if cp=0 then ad else ad.map (·.add (0*Γ.P.cellsOf E))) 0 cp,?_,.slice (.nil λhe=>?_)⟩
       ·simp only [Instr.sliceAt,Sem.run_bind,run_underlying hT,Result.andThen_ok,Instr.slice,hr,aau J hs];rfl
       ·by_cases hc:cp=0;all_goals simp_all
      | @mk b off cap _ L af hL ak ab=>
       obtain ⟨ao,J,hs⟩:=aav aj;have hr:=adm (Γ:=Γ) (w:=w) true xs.length cap H z l o q1 q2 h0 h1 h2 af;have I:((xs.take o.toNat).drop l.toNat).length=o.toNat-l.toNat:=by simp;omega
       by_cases e:cap=l.toNat
       ·have e0:o.toNat-l.toNat=0:=by omega
        have e1:(xs.take o.toNat).drop l.toNat=[]:=Ba (by omega);refine ⟨.slice (some ⟨b,off,none⟩) 0 0,?_,?_⟩
        ·simp only [Instr.sliceAt,Sem.run_bind,run_underlying hT,Result.andThen_ok,Instr.slice,hr,aau J hs,Sem.run_pure,Option.map_some,abo];grind
        ·rw [e1];exact .slice (.mk (xs:=[]) (L:=[]) (by simp) (by simp) (λi y hy=>by simp at hy) (λj v hj=>by simp at hj))
       refine ⟨.slice (some ⟨b,off+l.toNat*Γ.P.cellsOf E,none⟩) (o.toNat-l.toNat) (cap-l.toNat),?_,?_⟩
       ·simp only [Instr.sliceAt,Sem.run_bind,run_underlying hT,Result.andThen_ok,Instr.slice,hr,aau J hs,Sem.run_pure,Option.map_some,abo];rw [if_neg e]
       ·rw [<-I];refine .slice (.mk (L:=(L.drop (l.toNat*Γ.P.cellsOf E)).take ((o.toNat-l.toNat)*Γ.P.cellsOf E)) (by rw [I];omega) ?_ (λi y hy=>?_) (ab.sub _ _))
        ·rw [I];have:o.toNat*Γ.P.cellsOf E<=xs.length*Γ.P.cellsOf E:=Au _ (by omega);grind [Nat.sub_mul,List.length_take,List.length_drop]
        ·have aq:i<o.toNat-l.toNat:=by grind
         rw [List.getElem?_drop,List.getElem?_take_of_lt (by omega)] at hy;have:=ak _ _ hy;rw [Nat.add_mul] at this;rw [List.drop_take,List.take_take,Bn,Nat.min_eq_left]
         ·exact this
         ·have h4:(i+1)*Γ.P.cellsOf E<=(o.toNat-l.toNat)*Γ.P.cellsOf E:=Au _ (by omega);grind
    ·simp at h
   ·simp at h
  ·simp at h
theorem a1f (T:TypeId) (x0:SV) (lo hi mx:Option SV) (xv:Value) (z J M:Option Value) (r:Bool×SV) (hx:SRep Γ.P D w ow μ st x0 xv)
 (Z:∀ s u,lo=some s->z=some u->SRep Γ.P D w ow μ st s u) (I:lo.isSome=z.isSome) (an:hi.isSome=J.isSome) (ah:mx.isSome=M.isSome)
 (h:aze Γ.P T x0 lo hi mx=some r) (hr:r.1=true):∃ u,(Instr.sliceAt T xv z J M).run Γ.P w=.ok u w/\SRep Γ.P D w ow μ st r.2 u:=by
 unfold aze at h
 split at h
 ·rename_i E k g E' xs kk l hT;cases hc:(Nat.beq E E'&&!(Nat.beq (Γ.P.cellsOf E) 0)) with
  | false=>grind
  | true=>
   rw [hc] at h;simp only [Af,Ak] at h;subst h;simp only [A4] at hr;obtain ⟨h0,h1⟩:=hr;simp only [Aj,Bool.not_eq_true'] at hc;have:=Ae hc.1;subst this;have ai:Γ.P.cellsOf E≠0:=λe=>by simp_all
   have hm:M=none:=by simpa using ah.symm
   have hh:J=none:=by simp_all
   subst hm;subst hh;have q1:=agt (dflt:=0) (n:=l) Z I rfl;obtain ⟨ap,hi,ae⟩:=aav ai;have hd:(xs.take ((xs.length:Int)).toNat).drop l.toNat=xs.drop l.toNat:=by simp_all
   obtain ⟨u,hu,hs⟩:=ao4 T (.acc k g E xs) (some (.int kk l)) none none xv z none none (.slice E (xs.drop l.toNat)) hx Z I (λs u e=>by cases e) rfl rfl (by
    have e1:(Nat.beq E E&&!(Nat.beq (Γ.P.cellsOf E) 0))=true:=by rw [hc.2];simp
    simp only [ah7,ajz,hT,ame,bnd,al9,e1,Af,hd,Ac.val.injEq,and_true,A4];omega)
   refine ⟨u,hu,?_⟩;cases hs with
   | slice hs=>
   cases hx with
   | @acc _ _ g0 _ _ _ ab hk af aa=>
    refine .acc hs hk af (λhg=>?_);have ad:∀ (a:Option Addr) (n cap:Nat),xv=.slice a n cap->n=xs.length->n<=cap->u=.slice (if cap=l.toNat then a else a.map (·.add (l.toNat*Γ.P.cellsOf E))) (n-l.toNat) (cap-l.toNat):=by intro a n cap am hn O;subst am;subst hn;have aj:=adm (Γ:=Γ) (w:=w) true xs.length cap z none l xs.length q1 (Or.inl ⟨rfl,rfl⟩) h0 (by omega) (by omega) O;simp only [Instr.sliceAt,Sem.run_bind,run_underlying hT,Result.andThen_ok,Instr.slice,aj,aau hi ae,Sem.run_pure,Ai] at hu;grind
    have H:(xs.drop l.toNat).length=xs.length-l.toNat:=Bk;rcases aa hg with ⟨a,e⟩ | ⟨gb,off,cap,cur,e,h2,h3,h4,h5,h6,h7⟩
    ·subst e;have al:xs.length=0:=by
      generalize ak:Value.slice a 0 0=vv at ab;cases ab with
      | nil=>rfl
      | mk=>injection ak with _ e0 _;exact e0.symm
     have:=ad a 0 0 rfl al.symm (Nat.le_refl _);left;exact ⟨_,by rw [this,Nat.zero_sub]⟩
    ·have:=ad _ _ _ e rfl h3;by_cases ec:cap=l.toNat
     ·left;rw [if_pos ec] at this;exact ⟨_,by rw [this,show xs.length-l.toNat=0 by omega,show cap-l.toNat=0 by omega]⟩
     ·right;rw [if_neg ec,Option.map_some,abo] at this;have ao:l.toNat*Γ.P.cellsOf E+(cap-l.toNat)*Γ.P.cellsOf E=cap*Γ.P.cellsOf E:=by rw [<-Nat.add_mul];congr 1;omega
      have ag:l.toNat*Γ.P.cellsOf E+(xs.length-l.toNat)*Γ.P.cellsOf E=xs.length*Γ.P.cellsOf E:=by rw [<-Nat.add_mul];congr 1;omega
      exact ⟨gb,off+l.toNat*Γ.P.cellsOf E,cap-l.toNat,cur,by rw [this,H],h2,by omega,by omega,by omega,h6,λo ho=>h7 o (by rw [H] at ho;omega)⟩
 ·cases h
theorem ast {T E:TypeId}{k g:Nat}{l:Int}{xs:List PV}{xv lv:Value}{ik:IntKind} (hx:SRep Γ.P D w ow μ st (.arr k g E) xv) (J:SRep Γ.P D w ow μ st (.int ik l) lv) (hT:Γ.P.underlying T=some (.slice E)) (h:st[k]?=some (.arr E g xs)) (M:Γ.P.cellsOf E≠0) (h0:0<=l) (h1:l<xs.length):
 ∃ u,(Instr.sliceAt T xv (some lv) none none).run Γ.P w=.ok u w/\SRep Γ.P D w ow μ st (.avw k g l.toNat E) u:=by
 cases J
 cases hx with
 | arrOld o hg=>rw [h] at o;cases o;omega
 | arrNil o=>rw [h] at o;cases o;simp at h1;omega
 | @arr _ _ cap _ _ cur o hl H z O hs=>
  rw [h] at o;cases o
  obtain ⟨aa,hi,I⟩:=aav M
  have Z:=adm (Γ:=Γ) (w:=w) true xs.length cap (some (.int ik l)) none l xs.length (Or.inr ⟨_,rfl⟩) (Or.inl ⟨rfl,rfl⟩) h0 (by omega) (by omega) hl
  refine ⟨.slice (some ⟨μ k,l.toNat*Γ.P.cellsOf E,none⟩) (xs.length-l.toNat) (cap-l.toNat),?_,.avw h (by omega) hl H z O hs⟩
  simp only [Instr.sliceAt,Sem.run_bind,run_underlying hT,Result.andThen_ok,Instr.slice,Z,aau hi I,Sem.run_pure,Option.map_some,abo,Ai,Nat.zero_add]
  rw [if_neg (by omega)]
theorem a4l (hw:WRel Γ D ow μ st w) (T:TypeId) (x:SV) (xv:Value) (v:SV) (I:SRep Γ.P D w ow μ st x xv) (h:arz Γ.P T st x=.val true v) (ty:TypeId):
 ∃ u,(Builtin.len_ #[T] ty #[xv]).run Γ.P w=.ok u w/\SRep Γ.P D w ow μ st v u:=by
 unfold arz at h
 split at h
 ·rename_i s o;simp only [Ac.val.injEq,true_and] at h;subst h;cases I;have O:(⟨s.toArray⟩:ByteArray).size=s.length:=by show s.toArray.size=_;simp
  exact ⟨.int .i64 s.length,by simp [Builtin.len_,run_underlying o,goInt,O],.int⟩
 ·rename_i E J xs o;simp only [Ac.val.injEq,true_and] at h;subst h;cases I with
  | slice Z=>cases Z<;>exact ⟨_,by simp [Builtin.len_,run_underlying o,goInt],.int⟩
 ·rename_i E k g J xs o;simp only [Ac.val.injEq,true_and] at h;subst h;cases I with
  | acc Z=>cases Z<;>exact ⟨_,by simp [Builtin.len_,run_underlying o,goInt],.int⟩
 ·rename_i E J xs o;simp only [Ac.val.injEq,true_and] at h;subst h;cases I with
  | lit Z=>exact ⟨_,by simp [Builtin.len_,run_underlying o,goInt],.int⟩
 ·rename_i E o;simp only [Ac.val.injEq,true_and] at h;subst h;cases I;exact ⟨_,by simp [Builtin.len_,run_underlying o,goInt],.int⟩
 ·rename_i E k g J o;split at h
  ·rename_i xs M;have H:=abw M;simp only [Ac.val.injEq,true_and] at h;subst h;cases I with
   | arrOld z hg=>rw [H] at z;cases z;omega
   | arrNil z=>rw [H] at z;cases z;exact ⟨_,by simp [Builtin.len_,run_underlying o,goInt],.int⟩
   | arr z=>rw [H] at z;cases z;exact ⟨_,by simp [Builtin.len_,run_underlying o,goInt],.int⟩
  ·cases h
 ·rename_i E k g lo J o;split at h
  ·rename_i xs M;have H:=abw M;simp only [Ac.val.injEq,true_and] at h;subst h;cases I with
   | avwOld z hg=>rw [H] at z;cases z;omega
   | avw z=>rw [H] at z;cases z;exact ⟨_,by simp [Builtin.len_,run_underlying o,goInt],.int⟩
  ·cases h
 ·rename_i K E K' J es o;simp only [Ac.val.injEq,true_and] at h;subst h;cases I with
  | map Z=>
   cases Z with
   | nil=>exact ⟨_,by simp [Builtin.len_,run_underlying o,goInt],.int⟩
   | mk kc vc hh hd O=>exact ⟨.int .i64 es.length,by simp [Builtin.len_,run_underlying o,goInt,getObj,Sem.run,hh,O],.int⟩
 ·rename_i K E k o;split at h
  ·rename_i K' J es z;simp only [Ac.val.injEq,true_and] at h;subst h;cases I;obtain ⟨ents,clock,kc,vc,h1,_,_,h4,_⟩:=hw.map k K' J es z;exact ⟨.int .i64 es.length,by simp [Builtin.len_,run_underlying o,goInt,getObj,Sem.run,h1,h4],.int⟩
  ·simp at h
 ·simp at h
theorem awe (S:TypeId) (i:Nat) (a:SV) (av:Value) (v:SV) (ha:SRep Γ.P D w ow μ st a av) (h:ajj Γ.P S i a=.val true v):
 ∃ u,(Instr.field S av i).run Γ.P w=.ok u w/\SRep Γ.P D w ow μ st v u:=by
 unfold ajj at h
 split at h
 ·rename_i fs z;split at h
  ·rename_i f M;cases hc:(ace Γ.P S&&aa0 Γ.P f.type) with
   | false=>rw [hc] at h;simp at h
   | true=>
    rw [hc] at h;simp only [Af] at h;simp only [Aj,aa0,Bool.not_eq_true',Bc] at hc;obtain ⟨hL,⟨ai,ad⟩,ae⟩:=hc;have hL:=acf hL (abd z);have key:∀ cs:List Value,cs.length=Γ.P.cellsOf S->(Instr.field S (.agg cs.toArray) i).run Γ.P w=.ok (pack Γ.P f.type ((cs.drop f.offset).take (Γ.P.cellsOf f.type))) w:=by intro cs hl;have hp:=ash ad cs f.offset (by rw [hl];exact hL.inside i f M) (ae.imp id Ae) w;simp only [Instr.field,Sem.run_bind,run_underlying z,Result.andThen_ok,M,asAgg,Sem.run_pure];exact hp
    split at h
    ·rename_i T pv;cases H:Nat.beq S T with
     | false=>rw [H] at h;simp at h
     | true=>
      rw [H] at h;simp only [Af,Ac.val.injEq,true_and] at h;have:=Ae H;subst this;subst h;cases ha with
      | @data _ _ cs J hr=>
       refine ⟨_,key cs (hr.aggLen J),?_⟩;cases hr with
       | @agg _ ab vs _ o O ag Z I=>
        rw [z] at o;cases o;have af:i<vs.length:=by rw [Z];exact (Array.getElem?_eq_some_iff.1 M).1
        have aa:vs[i]?=some vs[i]:=Am af;rw [arj aa];exact (I i vs[i] f aa M).ofPV
       | arr o=>rw [z] at o;cases o
       | bool o=>rw [z] at o;cases o
       | int o=>rw [z] at o;cases o
       | str o=>rw [z] at o;cases o
       | nil o=>rw [z] at o;cases o
       | slice o=>rw [z] at o;cases o
       | mapnil o=>rw [z] at o;cases o
       | map _ _ o=>rw [z] at o;cases o
       | raw I=>simp [rawT,z] at I
    ·rename_i T vs;cases H:Nat.beq S T with
     | false=>rw [H] at h;simp at h
     | true=>
      rw [H] at h;simp only [Af] at h;have:=Ae H;subst this;split at h
      ·rename_i x hx;simp only [Ac.val.injEq,true_and] at h;subst h;cases ha with
       | @agg _ ab _ cs o O ag Z ah=>rw [abd z] at o;cases o;exact ⟨_,key cs O,ah i _ f hx M⟩
      ·simp at h
    ·simp at h
  ·simp at h
 ·simp at h
end
end Go.Ab
