/- Operations that read memory. -/
import Derived.Test.YtodichgnoiaanaaGreatAbAct
set_option linter.unusedVariables false
set_option linter.unusedSimpArgs false
set_option linter.unnecessarySimpa false
namespace Go.Ab
open Go
theorem adm {P:Program}{T:TypeId} (hT:(P.underlying T).isSome=true) (w:World) (b off:Nat) (cs:List Value) (hc:∀ j v,cs[j]?=some v->w.cell? ⟨b,off+j,none⟩=some v)
 (ha:aaj P T=true->cs.length=P.cellsOf T) (h1:aaj P T=false->∃ u,cs=[u]):(loadVar T ⟨b,off,none⟩).run P w=.ok (pack P T cs) w:=by
 unfold loadVar
 simp only [Sem.run_bind,akh hT,Result.andThen_ok]
 cases hagg:aaj P T with
 | true=>
  obtain ⟨d,hd⟩:=Option.isSome_iff_exists.1 hT
  obtain ⟨i,hi,hs⟩:=aix hd
  have hl:=run_loadCells_list (P:=P) w ⟨b,off,none⟩ cs (fun j v hj=>by rw [ab6];exact hc j v hj)
  rw [ha hagg] at hl
  simp only [if_true,Sem.run_bind,aa3 hi hs,Result.andThen_ok,hl,pack,hagg]
  rfl
 | false=>
  obtain ⟨u,rfl⟩:=h1 hagg
  have:=hc 0 u rfl
  simp only [Nat.add_zero] at this
  simp [this,pack,hagg]
section
variable {Γ:Ctx}{D:Dom}{ow:Own}{μ:Nat->Nat}{st:List BX}{w:World}
theorem Rep.single {P:Program}{T:TypeId}{v:PV}{cs:List Value} (h:Rep P D w T v cs) (ha:aaj P T=false):∃ u,cs=[u]:=by
 cases h with
 | agg hT=>simp [aaj,hT] at ha
 | arr hT=>simp [aaj,hT] at ha
 | _=>exact ⟨_,rfl⟩
theorem a2r {α:Type}{l:List α}{i:Nat}{d:α} (h:i<l.length):l[i]?=some (l.getD i d):=by simp [List.getD,List.getElem?_eq_getElem h]
theorem ali {P:Program}{TB E:TypeId}{n:Nat}{pv:PV}{cells:List Value} (hT:P.underlying TB=some (.array n E)) (h:SRep P D w ow μ st (.data TB pv) (pack P TB cells)) (hl:cells.length=P.cellsOf TB):
 pv=.agg pv.parts/\pv.parts.length=n/\cells.length=P.cellsOf TB/\(∀ c,c∈cells->c.oneCell'=true)/\∀ (i:Nat) (x:PV),pv.parts[i]?=some x->Rep P D w E x ((cells.drop (i*P.cellsOf E)).take (P.cellsOf E)):=by
 have ha:aaj P TB=true:=by simp [aaj,hT]
 simp only [pack,ha,if_true] at h
 generalize hv:Value.agg cells.toArray=v at h
 cases h with
 | data _ hr=>
  simp only [Value.agg.injEq] at hv
  have hcs:=congrArg Array.toList hv
  simp only [List.toList_toArray] at hcs
  subst hcs
  cases hr with
  | agg h2=>rw [hT] at h2;cases h2
  | arr h2 l1 o1 v1 r1=>rw [hT] at h2;cases h2;exact ⟨rfl,v1,l1,o1,r1⟩
  | raw h2=>simp [rawT,hT] at h2
  | bool h2=>rw [hT] at h2;cases h2
  | int h2=>rw [hT] at h2;cases h2
  | str h2=>rw [hT] at h2;cases h2
  | nil h2=>rw [hT] at h2;cases h2
  | slice h2=>rw [hT] at h2;cases h2
  | mapnil h2=>rw [hT] at h2;cases h2
  | map _ _ h2=>rw [hT] at h2;cases h2
theorem adg {k g:Nat}{E:TypeId}{xs:List PV} (h:af8 st k g E=some xs):st[k]?=some (.arr E g xs):=by
 unfold af8 at h
 split at h
 ·rename_i E' g' xs' hk
  cases hb:(Nat.beq g g'&&Nat.beq E E') with
  | false=>rw [hb] at h;cases h
  | true=>
   rw [hb] at h
   simp only [cond_true,Option.some.injEq] at h;subst h
   simp only [Bool.and_eq_true] at hb
   rw [hk,Nat.eq_of_beq_eq_true hb.1,Nat.eq_of_beq_eq_true hb.2]
 ·cases h
theorem au4 (hw:WRel Γ D ow μ st w) {k g i:Nat}{E:TypeId}{xs:List PV}{cur:Array Value} (hk:st[k]?=some (.arr E g xs)) (hi:i<xs.length) (hc:w.heap[μ k]?=some (.cells cur E (0,0))):
 (i+1)*Γ.P.cellsOf E<=cur.size/\(∀ o,¬D (μ k) o)/\Rep Γ.P D w E (xs.getD i .bad) ((cur.toList.drop (i*Γ.P.cellsOf E)).take (Γ.P.cellsOf E)):=by
 rcases hw.obj k _ hk with h | ⟨cur2,h1,h2,h3,h4,h5⟩
 ·subst h;simp at hi
 ·rw [hc] at h1;cases h1
  have hxi:xs[i]?=some xs[i]:=List.getElem?_eq_getElem hi
  have hd:xs.getD i PV.bad=xs[i]:=by simp [List.getD,hxi]
  refine ⟨Nat.le_trans (Nat.mul_le_mul_right _ (by omega)) h4,h3,?_⟩
  rw [hd];exact h5 i _ hxi
theorem axc (hw:WRel Γ D ow μ st w) (T:TypeId) (a:SV) (ad:Value) (v:SV) (ha:SRep Γ.P D w ow μ st a ad) (h:aep Γ.P T st a=.val true v):
 ∃ u,(Instr.loadAt T ad).run Γ.P w=.ok u w/\SRep Γ.P D w ow μ st v u:=by
 unfold aep at h
 split at h
 ·rename_i T' pv
  cases hb:(Nat.beq T T'&&(Γ.P.underlying T).isSome) with
  | false=>rw [hb] at h;simp at h
  | true=>
   rw [hb] at h
   simp only [Bool.and_eq_true] at hb
   have:=Nat.eq_of_beq_eq_true hb.1;subst this
   simp only [cond_true,Ac.val.injEq,true_and] at h;subst h
   cases ha with
   | @pto _ _ b off cs hh hr=>
    refine ⟨_,?_,hr.ofPV⟩
    simp only [Instr.loadAt,Instr.sureAddr,Sem.run_bind,Sem.run_pure,Result.andThen_ok]
    exact adm hb.2 w b off cs (fun j v hj=>(hh j v hj).2) (fun ha=>hr.aggLen ha) (fun ha=>hr.single ha)
 ·rename_i k path T'
  cases hb:(Nat.beq T T'&&(Γ.P.underlying T).isSome) with
  | false=>rw [hb] at h;simp at h
  | true=>
   rw [hb] at h
   simp only [Bool.and_eq_true] at hb
   have:=Nat.eq_of_beq_eq_true hb.1;subst this
   simp only [cond_true] at h
   cases ha with
   | @ref _ _ _ TB s off hk hp=>
    rw [hk] at h
    simp only at h
    cases h1:(aaj Γ.P T||Nat.beq (Γ.P.cellsOf T) 1) with
    | false=>rw [h1] at h;simp at h
    | true=>
     rw [h1] at h
     simp only [cond_true] at h
     cases hg:agn Γ.P TB s path with
     | none=>rw [hg] at h;simp at h
     | some x=>
      rw [hg] at h
      simp only [Ac.val.injEq,true_and] at h;subst h
      obtain ⟨cells,T',q1,q2,q3,q4,q5⟩:=hw.box k TB s hk
      obtain ⟨r1,r2⟩:=aiw path TB s cells off T x q5 q2 hp hg
      refine ⟨_,?_,r1⟩
      have hl:((cells.drop off).take (Γ.P.cellsOf T)).length=Γ.P.cellsOf T:=by simp;omega
      simp only [Instr.loadAt,Instr.sureAddr,Sem.run_bind,Sem.run_pure,Result.andThen_ok]
      refine adm hb.2 w (μ k) off _ (fun j v hj=>?_) (fun _=>hl) (fun ha=>?_)
      ·have hlt:j<Γ.P.cellsOf T:=by have:=(List.getElem?_eq_some_iff.1 hj).1;omega
       rw [List.getElem?_take_of_lt hlt,List.getElem?_drop] at hj
       simp [World.cell?,q1,hj]
      ·rw [ha] at h1
       simp at h1
       rw [h1] at hl ⊢
       match (cells.drop off).take 1,hl with
       | [u],_=>exact ⟨u,rfl⟩
 ·rename_i k i E
  cases hb:(Nat.beq T E&&aa1 Γ.P E) with
  | false=>rw [hb] at h;cases h
  | true=>
   rw [hb] at h
   simp only [cond_true] at h
   simp only [Bool.and_eq_true,aa1] at hb
   have:=Nat.eq_of_beq_eq_true hb.1;subst this
   cases ha with
   | @eref _ _ n _ TB s hk hT hi=>
    rw [hk] at h
    split at h
    case h_2=>cases h
    rename_i TB0 TB' pv he
    cases he
    cases hc:(Nat.beq TB TB'&&aqo Γ.P TB T) with
    | false=>rw [hc] at h;cases h
    | true=>
     rw [hc] at h
     simp only [cond_true,Ac.val.injEq,true_and] at h;subst h
     simp only [Bool.and_eq_true] at hc
     have:=Nat.eq_of_beq_eq_true hc.1;subst this
     obtain ⟨cells,T',q1,q2,q3,q4,q5⟩:=hw.box k TB _ hk
     obtain ⟨a1,a2,a3,a4,a5⟩:=ali hT q5 q2
     have hxi:pv.parts[i]?=some (pv.fld i):=by
      unfold PV.fld
      rw [a2r (by omega)]
     have hr:=a5 i _ hxi
     refine ⟨_,?_,hr.ofPV⟩
     simp only [Instr.loadAt,Instr.sureAddr,Sem.run_bind,Sem.run_pure,Result.andThen_ok]
     refine adm hb.2.1.2 w (μ k) _ _ (fun j v hj=>?_) (fun ha=>hr.aggLen ha) (fun ha=>hr.single ha)
     have hj':j<Γ.P.cellsOf T:=by have:=(List.getElem?_eq_some_iff.1 hj).1;rw [List.length_take] at this;omega
     rw [List.getElem?_take_of_lt hj',List.getElem?_drop] at hj
     simp [World.cell?,q1,hj]
 ·rename_i k g i E path T'
  cases hb:(Nat.beq T T'&&aa1 Γ.P E&&aa1 Γ.P T) with
  | false=>rw [hb] at h;cases h
  | true=>
   rw [hb] at h
   simp only [cond_true] at h
   simp only [Bool.and_eq_true,aa1,Bool.not_eq_true',Bool.or_eq_true] at hb
   obtain ⟨⟨hb1,⟨hb2,hb3⟩,hb4⟩,⟨hb5,hb6⟩,hb7⟩:=hb
   have:=Nat.eq_of_beq_eq_true hb1;subst this
   split at h
   case h_2=>cases h
   rename_i xs hat
   have hk0:=adg hat
   cases ha with
   | arefOld hk hg=>rw [hk0] at hk;cases hk;omega
   | @aref _ _ _ off _ _ _ xs2 cur hk hi hp hc ho=>
    rw [hk0] at hk;cases hk
    obtain ⟨a1,a2,a3⟩:=au4 hw hk0 hi hc
    cases hg:agn Γ.P E (ofPV Γ.P E (xs.getD i .bad)) path with
    | none=>rw [hg] at h;cases h
    | some x=>
     rw [hg] at h
     simp only [Ac.val.injEq,true_and] at h;subst h
     have hlen:((cur.toList.drop (i*Γ.P.cellsOf E)).take (Γ.P.cellsOf E)).length=Γ.P.cellsOf E:=by
      rw [Nat.add_mul] at a1
      simp;omega
     obtain ⟨r1,r2⟩:=aiw (ow:=ow) (μ:=μ) (st:=st) path E _ _ off T x a3.ofPV hlen hp hg
     refine ⟨_,?_,r1⟩
     simp only [Instr.loadAt,Instr.sureAddr,Sem.run_bind,Sem.run_pure,Result.andThen_ok]
     rw [hlen] at r2
     have hl:(((cur.toList.drop (i*Γ.P.cellsOf E)).take (Γ.P.cellsOf E)).drop off |>.take (Γ.P.cellsOf T)).length=Γ.P.cellsOf T:=by rw [List.length_take,List.length_drop,hlen];omega
     refine adm hb6 w (μ k) _ _ (fun j v hj=>?_) (fun _=>hl) (fun ha=>?_)
     ·have hlt:j<Γ.P.cellsOf T:=by have:=(List.getElem?_eq_some_iff.1 hj).1;omega
      rw [List.getElem?_take_of_lt hlt,List.getElem?_drop,List.getElem?_take_of_lt (by omega),List.getElem?_drop] at hj
      simp only [World.cell?,hc]
      rw [Nat.add_assoc]
      simpa using hj
     ·rcases hb7 with h7 | h7
      ·rw [ha] at h7;cases h7
      ·have h7:=Nat.eq_of_beq_eq_true h7
       generalize (((cur.toList.drop (i*Γ.P.cellsOf E)).take (Γ.P.cellsOf E)).drop off |>.take (Γ.P.cellsOf T))=l at hl ⊢
       rw [h7] at hl
       match l,hl with
       | [u],_=>exact ⟨u,rfl⟩
 ·simp at h
theorem akr {P:Program}:∀ (path:List Nat) (TB:TypeId) (off:Nat) (S:TypeId) (i:Nat) (fs:Array Field) (f:Field),aby P TB path=some (off,S)->P.underlying S=some (.struct fs)->fs[i]?=some f->
 aby P TB (path++[i])=some (off+f.offset,f.type):=by
 intro path
 induction path with
 | nil=>
  intro TB off S i fs f h hS hf
  simp [aby] at h
  obtain ⟨rfl,rfl⟩:=h
  simp [aby,hS,hf]
 | cons j p ih=>
  intro TB off S i fs f h hS hf
  unfold aby at h
  cases hT:P.underlying TB with
  | none=>rw [hT] at h;simp at h
  | some d=>
   cases d with
   | struct ds=>
    rw [hT] at h
    simp only at h
    cases hg:ds[j]? with
    | none=>rw [hg] at h;simp at h
    | some g=>
     rw [hg] at h
     simp only at h
     cases hq:aby P g.type p with
     | none=>rw [hq] at h;simp at h
     | some r=>
      obtain ⟨o,t⟩:=r
      rw [hq] at h
      simp at h
      obtain ⟨rfl,rfl⟩:=h
      have:=ih g.type o t i fs f hq hS hf
      simp only [List.cons_append,aby,hT,hg,this,Option.map_some,Nat.add_assoc]
   | _=>rw [hT] at h;simp at h
theorem Held.sub {b off:Nat}{cs:List Value} (h:Held D w b off cs) (o n:Nat):Held D w b (off+o) ((cs.drop o).take n):=by
 intro j v hj
 by_cases hlt:j<n
 ·rw [List.getElem?_take_of_lt hlt,List.getElem?_drop] at hj
  have:=h _ v hj
  rwa [Nat.add_assoc]
 ·rw [List.getElem?_eq_none (by simp;omega)] at hj;cases hj
theorem alx (S:TypeId) (i:Nat) (a:SV) (ad:Value) (v:SV) (ha:SRep Γ.P D w ow μ st a ad) (h:aci Γ.P st S i a=.val true v):
 ∃ u,(Instr.fieldAt S ad i).run Γ.P w=.ok u w/\SRep Γ.P D w ow μ st v u:=by
 unfold aci at h
 split at h
 ·rename_i fs hS
  split at h
  ·rename_i f hf
   cases h0:Nat.beq (Γ.P.cellsOf f.type) 0 with
   | true=>rw [h0] at h;simp at h
   | false=>
    rw [h0] at h
    simp only [cond_false] at h
    have hne:Γ.P.cellsOf f.type≠0:=fun e=>by rw [e] at h0;cases h0
    obtain ⟨inf,hi,hs⟩:=aa5 hne
    have hplace:∀ b off:Nat,(fieldPlace ⟨b,off,none⟩ f).run Γ.P w=.ok ⟨b,off+f.offset,none⟩ w:=by
     intro b off
     simp [fieldPlace,aa3 hi hs,hne,ab6]
    split at h
    ·rename_i T pv
     cases hb:Nat.beq S T with
     | false=>rw [hb] at h;simp at h
     | true=>
      rw [hb] at h
      simp only [cond_true,Ac.val.injEq,true_and] at h
      have:=Nat.eq_of_beq_eq_true hb;subst this;subst h
      cases ha with
      | @pto _ _ b off cs hh hr=>
       refine ⟨.pointer (some ⟨b,off+f.offset,none⟩),by simp [Instr.fieldAt,run_underlying hS,hf,Instr.sureAddr,hplace],?_⟩
       cases hr with
       | @agg _ fs2 vs _ hT2 hl2 ho2 hv2 hr2=>
        rw [hS] at hT2;cases hT2
        have hlt:i<vs.length:=by rw [hv2];exact (Array.getElem?_eq_some_iff.1 hf).1
        have hvi:vs[i]?=some vs[i]:=List.getElem?_eq_getElem hlt
        rw [apc hvi]
        exact .pto (hh.sub _ _) (hr2 i vs[i] f hvi hf)
       | arr hT2=>rw [hS] at hT2;cases hT2
       | bool hT2=>rw [hS] at hT2;cases hT2
       | int hT2=>rw [hS] at hT2;cases hT2
       | str hT2=>rw [hS] at hT2;cases hT2
       | nil hT2=>rw [hS] at hT2;cases hT2
       | slice hT2=>rw [hS] at hT2;cases hT2
       | mapnil hT2=>rw [hS] at hT2;cases hT2
       | map _ _ hT2=>rw [hS] at hT2;cases hT2
       | raw hr2=>simp [rawT,hS] at hr2
    ·rename_i k path T
     cases hb:Nat.beq S T with
     | false=>rw [hb] at h;simp at h
     | true=>
      rw [hb] at h
      simp only [cond_true,Ac.val.injEq,true_and] at h
      have:=Nat.eq_of_beq_eq_true hb;subst this;subst h
      cases ha with
      | @ref _ _ _ TB s off hk hp=>
       refine ⟨.pointer (some ⟨μ k,off+f.offset,none⟩),by simp [Instr.fieldAt,run_underlying hS,hf,Instr.sureAddr,hplace],?_⟩
       exact .ref hk (akr path TB off S i fs f hp hS hf)
    ·rename_i k T
     cases hb:(Nat.beq S T&&Nat.beq f.offset 0) with
     | false=>rw [hb] at h;simp at h
     | true=>
      rw [hb] at h
      simp only [cond_true,Ac.val.injEq,true_and] at h
      simp only [Bool.and_eq_true] at hb
      have h0:=Nat.eq_of_beq_eq_true hb.2
      subst h
      cases ha with
      | bref hk=>
       refine ⟨.pointer (some ⟨μ k,0+f.offset,none⟩),by simp [Instr.fieldAt,run_underlying hS,hf,Instr.sureAddr,hplace],?_⟩
       rw [h0]
       exact .bref hk
    ·rename_i k g j E path T
     cases hb:(Nat.beq S T&&adv st k g) with
     | false=>rw [hb] at h;simp at h
     | true=>
      rw [hb] at h
      simp only [cond_true,Ac.val.injEq,true_and] at h
      simp only [Bool.and_eq_true] at hb
      have:=Nat.eq_of_beq_eq_true hb.1;subst this;subst h
      cases ha with
      | arefOld hk hg h1=>
       have h2:=hb.2
       unfold adv at h2
       rw [hk] at h2
       have:=Nat.eq_of_beq_eq_true h2
       omega
      | @aref _ _ _ off _ _ _ xs cur hk hi hp hc ho=>
       refine ⟨.pointer (some ⟨μ k,j*Γ.P.cellsOf E+off+f.offset,none⟩),by simp [Instr.fieldAt,run_underlying hS,hf,Instr.sureAddr,hplace],?_⟩
       rw [Nat.add_assoc]
       exact .aref hk hi (akr path E off S i fs f hp hS hf) hc ho
    ·simp at h
  ·simp at h
 ·simp at h
theorem aki {E:TypeId}{x:SV}{v:Value}{xs:List PV} (hx:SRep Γ.P D w ow μ st x v) (hl:al8 x=some xs) (he:alu Γ.P E x=true):SliceRep Γ.P D w E xs v:=by
 unfold al8 at hl
 split at hl
 ·cases hl;cases hx with | slice h=>have:=Nat.eq_of_beq_eq_true he;subst this;exact h
 ·cases hl;cases hx with | acc h=>have:=Nat.eq_of_beq_eq_true he;subst this;exact h
 ·cases hl;cases hx with | lit h=>have:=Nat.eq_of_beq_eq_true he;subst this;exact h
 ·cases hl;cases hx with | sln h=>have:=Nat.eq_of_beq_eq_true he;subst this;exact h
 ·cases hl;cases hx;exact .nil fun _=>rfl
 ·simp at hl
theorem ao0 (T:TypeId) (x i:SV) (xv iv:Value) (hx:SRep Γ.P D w ow μ st x xv) (hi:SRep Γ.P D w ow μ st i iv) {r:Bool×SV} (h:alh Γ.P T x i=some r) (h1:r.1=true):
 ∃ u,(Instr.indexAt T xv iv).run Γ.P w=.ok u w/\SRep Γ.P D w ow μ st r.2 u:=by
 unfold alh at h
 split at h
 case h_2=>cases h
 rename_i n E k T' ki iv' hT
 cases hb:(Nat.beq T T'&&aa1 Γ.P E) with
 | false=>rw [hb] at h;cases h
 | true=>
  rw [hb] at h
  simp only [cond_true,Option.some.injEq] at h
  subst h
  simp only [Bool.and_eq_true,aa1,Bool.not_eq_true'] at hb
  have:=Nat.eq_of_beq_eq_true hb.1;subst this
  have hne:Γ.P.cellsOf E≠0:=fun e=>by have:=hb.2.1.1;rw [e] at this;cases this
  obtain ⟨inf,hinf,hs⟩:=aa5 hne
  have hr:0<=iv'/\iv'<(n:Int):=by simpa [aaa] using h1
  cases hi
  cases hx with
  | ref hk hp=>
   simp only [aby,Option.some.injEq,Prod.mk.injEq] at hp
   obtain ⟨rfl,rfl⟩:=hp
   refine ⟨.pointer (some ⟨μ k,iv'.toNat*Γ.P.cellsOf E,none⟩),?_,.eref hk hT (by omega)⟩
   simp [Instr.indexAt,asIntOf,Instr.sureAddr,run_underlying hT,hr.1,hr.2,aa3 hinf hs,ab6]
theorem ap9 (T:TypeId) (x i:SV) (xv iv:Value) (hx:SRep Γ.P D w ow μ st x xv) (hi:SRep Γ.P D w ow μ st i iv) {r:Bool×SV} (h:afy Γ.P T st x i=some r) (h1:r.1=true):
 ∃ u,(Instr.indexAt T xv iv).run Γ.P w=.ok u w/\SRep Γ.P D w ow μ st r.2 u:=by
 unfold afy at h
 split at h
 case h_2=>cases h
 rename_i E k g E' ki n hT
 split at h
 case h_2=>cases h
 rename_i xs hat
 have hk0:=adg hat
 cases hb:(Nat.beq E E'&&aa1 Γ.P E) with
 | false=>rw [hb] at h;cases h
 | true=>
  rw [hb] at h
  simp only [cond_true,Option.some.injEq] at h
  subst h
  simp only [Bool.and_eq_true,aa1,Bool.not_eq_true'] at hb
  have:=Nat.eq_of_beq_eq_true hb.1;subst this
  have hne:Γ.P.cellsOf E≠0:=fun e=>by have:=hb.2.1.1;rw [e] at this;cases this
  obtain ⟨inf,hinf,hs⟩:=aa5 hne
  have hr:0<=n/\n<(xs.length:Int):=by simpa [aaa] using h1
  cases hi
  cases hx with
  | arrOld hk hg=>rw [hk0] at hk;cases hk;omega
  | arrNil hk=>rw [hk0] at hk;cases hk;simp at hr;omega
  | arr hk hl hmx hc ho hsz=>
   rw [hk0] at hk;cases hk
   refine ⟨.pointer (some ⟨μ k,0+n.toNat*Γ.P.cellsOf E,none⟩),?_,?_⟩
   ·simp [Instr.indexAt,asIntOf,run_underlying hT,hr.1,hr.2,aa3 hinf hs,ab6]
   ·have:=SRep.aref (P:=Γ.P) (D:=D) (w:=w) (ow:=ow) (μ:=μ) (st:=st) (i:=n.toNat) (off:=0) (T:=E) (path:=[]) hk0 (by omega) rfl hc ho
    rw [Nat.zero_add]
    simpa using this
theorem al3 (T:TypeId) (x i:SV) (xv iv:Value) (v:SV) (hx:SRep Γ.P D w ow μ st x xv) (hi:SRep Γ.P D w ow μ st i iv) (h:acj Γ.P T st x i=.val true v):
 ∃ u,(Instr.indexAt T xv iv).run Γ.P w=.ok u w/\SRep Γ.P D w ow μ st v u:=by
 unfold acj at h
 cases he0:alh Γ.P T x i with
 | some r=>
  rw [he0] at h
  simp only [Ac.val.injEq] at h
  obtain ⟨h1,rfl⟩:=h
  exact ao0 T x i xv iv hx hi he0 h1
 | none=>
 rw [he0] at h
 simp only at h
 cases he1:afy Γ.P T st x i with
 | some r=>
  rw [he1] at h
  simp only [Ac.val.injEq] at h
  obtain ⟨h1,rfl⟩:=h
  exact ap9 T x i xv iv hx hi he1 h1
 | none=>
 rw [he1] at h
 simp only at h
 split at h
 ·rename_i E xs k n hT hl
  cases he:(alu Γ.P E x&&!(Nat.beq (Γ.P.cellsOf E) 0)) with
  | false=>rw [he] at h;simp at h
  | true=>
   rw [he] at h
   simp only [cond_true,Ac.val.injEq] at h
   obtain ⟨h1,rfl⟩:=h
   simp only [Bool.and_eq_true,Bool.not_eq_true'] at he
   have hne:Γ.P.cellsOf E≠0:=fun e=>by rw [e] at he;cases he.2
   obtain ⟨inf,hinf,hs⟩:=aa5 hne
   have hsl:=aki hx hl he.1
   have hr:0<=n/\n<(xs.length:Int):=by simpa [aaa] using h1
   cases hi
   cases hsl with
   | nil=>simp at hr;omega
   | @mk b off cap _ L hcap hL hrep hheld=>
    have hlt:n.toNat<xs.length:=by omega
    have hxi:xs[n.toNat]?=some xs[n.toNat]:=List.getElem?_eq_getElem hlt
    have hd:xs.getD n.toNat PV.bad=xs[n.toNat]:=by simp [List.getD,hxi]
    refine ⟨.pointer (some ⟨b,off+n.toNat*Γ.P.cellsOf E,none⟩),?_,?_⟩
    ·simp [Instr.indexAt,asIntOf,run_underlying hT,hr.1,hr.2,aa3 hinf hs,ab6]
    ·rw [hd]
     exact .pto (hheld.sub _ _) (hrep _ _ hxi)
 ·simp at h
theorem atj (T:TypeId) (x i:SV) (xv iv:Value) (v:SV) (hx:SRep Γ.P D w ow μ st x xv) (hi:SRep Γ.P D w ow μ st i iv) (h:ah7 Γ.P T x i=.val true v):
 ∃ u,(Instr.index T xv iv).run Γ.P w=.ok u w/\SRep Γ.P D w ow μ st v u:=by
 unfold ah7 at h
 split at h
 ·rename_i s k n hT
  simp only [Ac.val.injEq] at h
  obtain ⟨h1,rfl⟩:=h
  have hr:0<=n/\n<(s.length:Int):=by simpa [aaa] using h1
  cases hx;cases hi
  have hlt:n.toNat<s.length:=by omega
  have e:(⟨s.toArray⟩:ByteArray)[n.toNat]?=some s[n.toNat]:=by
   rw [ByteArray.getElem?_lt' _ _ (by show n.toNat<s.toArray.size;simpa using hlt)]
   rfl
  have hd:s.getD n.toNat 0=s[n.toNat]:=by simp [List.getD,List.getElem?_eq_getElem hlt]
  refine ⟨_,by simp [Instr.index,asIntOf,run_underlying hT,hr.1,e];rfl,?_⟩
  rw [hd];exact .int
 ·rename_i m E T' pv k n hT
  cases hb:(Nat.beq T T'&&aa1 Γ.P E&&Nat.beq (Γ.P.cellsOf T) (m*Γ.P.cellsOf E)) with
  | false=>rw [hb] at h;simp at h
  | true=>
   rw [hb] at h
   simp only [cond_true,Ac.val.injEq] at h
   obtain ⟨h1,rfl⟩:=h
   simp only [Bool.and_eq_true,aa1,Bool.not_eq_true',Bool.or_eq_true] at hb
   obtain ⟨⟨hb1,⟨hb2,hb3⟩,hb4⟩,hb5⟩:=hb
   have:=Nat.eq_of_beq_eq_true hb1;subst this
   have hne:Γ.P.cellsOf E≠0:=fun e=>by rw [e] at hb2;cases hb2
   obtain ⟨inf,hinf,hs⟩:=aa5 hne
   have hsz:=Nat.eq_of_beq_eq_true hb5
   have hr:0<=n/\n<(m:Int):=by simpa [aaa] using h1
   cases hi
   cases hx with
   | @data _ _ cs hagg hrep=>
    cases hrep with
    | @arr _ E2 m2 vs _ hT2 hl2 ho2 hv2 hr2=>
     rw [hT] at hT2;cases hT2
     have hlt:n.toNat<vs.length:=by omega
     have hvi:vs[n.toNat]?=some vs[n.toNat]:=List.getElem?_eq_getElem hlt
     have hfit:n.toNat*Γ.P.cellsOf E+Γ.P.cellsOf E<=cs.length:=by
      rw [hl2,hsz]
      have:(n.toNat+1)*Γ.P.cellsOf E<=m*Γ.P.cellsOf E:=Nat.mul_le_mul_right _ (by omega)
      rw [Nat.add_mul] at this;omega
     have hp:=aqa hb3 cs (n.toNat*Γ.P.cellsOf E) hfit (hb4.imp id Nat.eq_of_beq_eq_true) w
     refine ⟨pack Γ.P E ((cs.drop (n.toNat*Γ.P.cellsOf E)).take (Γ.P.cellsOf E)),?_,?_⟩
     ·simp only [Instr.index,asIntOf,Sem.run_bind,Sem.run_pure,Result.andThen_ok,run_underlying hT]
      simp only [hr.1,hr.2,and_self,if_true,Sem.run_bind,aa3 hinf hs,Result.andThen_ok]
      rw [hp]
     ·rw [apc hvi]
      exact (hr2 _ _ hvi).ofPV
    | agg hT2=>rw [hT] at hT2;cases hT2
    | bool hT2=>rw [hT] at hT2;cases hT2
    | int hT2=>rw [hT] at hT2;cases hT2
    | str hT2=>rw [hT] at hT2;cases hT2
    | nil hT2=>rw [hT] at hT2;cases hT2
    | slice hT2=>rw [hT] at hT2;cases hT2
    | mapnil hT2=>rw [hT] at hT2;cases hT2
    | map _ _ hT2=>rw [hT] at hT2;cases hT2
    | raw hr2=>simp [rawT,hT] at hr2
 ·simp at h
end
end Go.Ab
namespace Go.Ab
open Go
section
variable {Γ:Ctx}{D:Dom}{ow:Own}{μ:Nat->Nat}{st:List BX}{w:World}
theorem ag5 {x:Option SV}{xv:Option Value}{dflt n:Int} (hx:∀ s v,x=some s->xv=some v->SRep Γ.P D w ow μ st s v) (hsame:x.isSome=xv.isSome) (h:bnd x dflt=some n):
 (xv=none/\n=dflt)∨∃ k,xv=some (.int k n):=by
 unfold bnd at h
 split at h
 ·simp at hsame;simp at h
  exact Or.inl ⟨hsame,h.symm⟩
 ·rename_i k m
  simp at h;subst h
  cases xv with
  | none=>simp at hsame
  | some v=>
   have:=hx _ v rfl rfl
   cases this
   exact Or.inr ⟨k,rfl⟩
 ·simp at h
theorem ajl (k:IntKind) (n:Int) (y:Nat) (code:BoundsCode) (h0:0<=n) (h1:n<=y):(Instr.sliceBound (.int k n) y code).run Γ.P w=.ok n.toNat w:=by
 simp only [Instr.sliceBound,asIntOf,Sem.run_bind,Sem.run_pure,Result.andThen_ok,h0,h1,and_self,if_true]
theorem ahl (isSlice:Bool) (n cap:Nat) (lo hi:Option Value) (l h:Int) (hl:(lo=none/\l=0)∨∃ k,lo=some (.int k l)) (hh:(hi=none/\h=n)∨∃ k,hi=some (.int k h)) (h0:0<=l) (h1:l<=h) (h2:h<=n) (hc:n<=cap):
 (Instr.sliceBounds isSlice n cap lo hi none).run Γ.P w=.ok (l.toNat,h.toNat,cap) w:=by
 have a1:0<=h:=by omega
 have a2:h<=(cap:Int):=by omega
 have a3:l<=((h.toNat:Nat):Int):=by omega
 have a4:l<=((n:Nat):Int):=by omega
 rcases hh with ⟨rfl,rfl⟩ | ⟨k,rfl⟩<;>rcases hl with ⟨rfl,rfl⟩ | ⟨k',rfl⟩
 ·simp [Instr.sliceBounds]
 ·simp [Instr.sliceBounds,ajl (Γ:=Γ) (w:=w) k' l n _ h0 a4]
 ·simp [Instr.sliceBounds,ajl (Γ:=Γ) (w:=w) k h cap _ a1 a2]
 ·simp only [Instr.sliceBounds,Sem.run_bind,Sem.run_pure,Result.andThen_ok,ajl (Γ:=Γ) (w:=w) k h cap _ a1 a2,ajl (Γ:=Γ) (w:=w) k' l h.toNat _ h0 a3]
theorem ane (T:TypeId) (x:SV) (xv:Value) (lo hi:Option SV) (lov hiv:Option Value) (hx:SRep Γ.P D w ow μ st x xv)
 (hlo:∀ s u,lo=some s->lov=some u->SRep Γ.P D w ow μ st s u) (hlo':lo.isSome=lov.isSome) (hhi:∀ s u,hi=some s->hiv=some u->SRep Γ.P D w ow μ st s u) (hhi':hi.isSome=hiv.isSome)
 {r:Bool×SV} (h:ak4 Γ.P T x lo hi=some r) (h1:r.1=true):∃ u,(Instr.sliceAt T xv lov hiv none).run Γ.P w=.ok u w/\SRep Γ.P D w ow μ st r.2 u:=by
 unfold ak4 at h
 split at h
 case h_2=>cases h
 rename_i n E k T' hT
 split at h
 case h_2=>cases h
 rename_i l hh hbl hbh
 cases hb:(Nat.beq T T'&&aa1 Γ.P E) with
 | false=>rw [hb] at h;cases h
 | true=>
  rw [hb] at h
  simp only [cond_true,Option.some.injEq] at h
  subst h
  simp only [Bool.and_eq_true,aa1,Bool.not_eq_true'] at hb
  have:=Nat.eq_of_beq_eq_true hb.1;subst this
  have hne:Γ.P.cellsOf E≠0:=fun e=>by have:=hb.2.1.1;rw [e] at this;cases this
  obtain ⟨inf,hinf,hs⟩:=aa5 hne
  simp only [decide_eq_true_eq] at h1
  obtain ⟨h0,h1,h2,h3⟩:=h1
  have q1:=ag5 hlo hlo' hbl
  have q2:=ag5 hhi hhi' hbh
  have hr:=ahl (Γ:=Γ) (w:=w) false n n lov hiv l hh q1 q2 h0 h2 h3 (Nat.le_refl _)
  cases hx with
  | ref hk hp=>
   simp only [aby,Option.some.injEq,Prod.mk.injEq] at hp
   obtain ⟨rfl,rfl⟩:=hp
   refine ⟨.slice (some ⟨μ k,l.toNat*Γ.P.cellsOf E,none⟩) (hh.toNat-l.toNat) (n-l.toNat),?_,.asl hk hT (by omega) (by omega)⟩
   simp only [Instr.sliceAt,Instr.sureAddr,Sem.run_bind,run_underlying hT,Result.andThen_ok,Sem.run_pure,hr,aa3 hinf hs]
   rw [if_neg (by omega)]
   simp [ab6]
theorem aqv (hw:WRel Γ D ow μ st w) (src dst:TypeId) (x:SV) (a:Value) (v:SV) (ha:SRep Γ.P D w ow μ st x a) (h:ael Γ.P st src dst x=.val true v):∃ u,(convert src dst a).run Γ.P w=.ok u w/\SRep Γ.P D w ow μ st v u:=by
 unfold ael at h
 split at h
 case h_2=>exact awp src dst x a v ha h
 rename_i k lo n E
 split at h
 case h_2=>cases h
 rename_i TB TB' pv hd hk
 cases hb:(Nat.beq TB TB'&&aqo Γ.P TB E&&adb Γ.P src E) with
 | false=>rw [hb] at h;cases h
 | true=>
  rw [hb] at h
  simp only [cond_true,Ac.val.injEq,true_and] at h;subst h
  simp only [Bool.and_eq_true] at hb
  obtain ⟨⟨hb1,hb2⟩,hb3⟩:=hb
  have:=Nat.eq_of_beq_eq_true hb1;subst this
  cases ha with
  | @asl _ _ _ m cap _ TB2 v2 hk2 hT hl hc=>
   rw [hk] at hk2
   simp only [Option.some.injEq,BX.box.injEq] at hk2
   obtain ⟨rfl,rfl⟩:=hk2
   obtain ⟨cells,T',q1,q2,q3,q4,q5⟩:=hw.box k TB _ hk
   obtain ⟨a1,a2,a3,a4,a5⟩:=ali hT q5 q2
   have hcE:Γ.P.cellsOf E=1:=by
    unfold adb at hb3
    simp only [Bool.and_eq_true] at hb3
    exact Nat.eq_of_beq_eq_true hb3.2
   have hcT:Γ.P.cellsOf TB=m:=by
    unfold aqo at hb2
    rw [hT] at hb2
    simp only [Bool.and_eq_true] at hb2
    have:=Nat.eq_of_beq_eq_true hb2.2
    rw [hcE] at this;omega
   refine ⟨_,afr (D:=fun _ _=>True) hb3 hd ?_,.str⟩
   have hlen:((pv.parts.drop lo).take n).length=n:=by simp;omega
   have e:=SliceRep.mk (P:=Γ.P) (D:=fun _ _=>True) (w:=w) (E:=E) (b:=μ k) (off:=lo*Γ.P.cellsOf E) (cap:=cap) (xs:=(pv.parts.drop lo).take n) (L:=(cells.drop lo).take n) (by omega) (by rw [hlen,hcE];simp;omega) (fun i x hx=>?_) (fun j u hj=>⟨trivial,?_⟩)
   ·rw [hlen] at e;exact e
   ·have hi:i<n:=by have:=(List.getElem?_eq_some_iff.1 hx).1;omega
    rw [List.getElem?_take_of_lt hi,List.getElem?_drop] at hx
    have r:=a5 (lo+i) x hx
    rw [hcE,Nat.mul_one] at r ⊢
    have e2:(((cells.drop lo).take n).drop i).take 1=(cells.drop (lo+i)).take 1:=by
     rw [List.drop_take,List.take_take,List.drop_drop,Nat.min_eq_left (by omega)]
    rw [e2]
    exact r.mono (fun _ _ _=>trivial) (Keeps.refl _ _)
   ·have hj':j<n:=by have:=(List.getElem?_eq_some_iff.1 hj).1;rw [List.length_take] at this;omega
    rw [List.getElem?_take_of_lt hj',List.getElem?_drop] at hj
    simp [World.cell?,q1,hj,hcE]
theorem aum (T:TypeId) (x0:SV) (lo hi mx:Option SV) (xv:Value) (lov hiv mxv:Option Value) (v:SV) (hx:SRep Γ.P D w ow μ st x0 xv)
 (hlo:∀ s u,lo=some s->lov=some u->SRep Γ.P D w ow μ st s u) (hlo':lo.isSome=lov.isSome) (hhi:∀ s u,hi=some s->hiv=some u->SRep Γ.P D w ow μ st s u) (hhi':hi.isSome=hiv.isSome) (hmx:mx.isSome=mxv.isSome)
 (h:aii Γ.P T x0 lo hi mx=.val true v):∃ u,(Instr.sliceAt T xv lov hiv mxv).run Γ.P w=.ok u w/\SRep Γ.P D w ow μ st v u:=by
 unfold aii at h
 split at h
 ·simp at h
 ·have hm:mxv=none:=by simpa using hmx.symm
  subst hm
  cases he0:ak4 Γ.P T x0 lo hi with
  | some r=>
   rw [he0] at h
   simp only [Ac.val.injEq] at h
   obtain ⟨h1,rfl⟩:=h
   exact ane T x0 xv lo hi lov hiv hx hlo hlo' hhi hhi' he0 h1
  | none=>
  rw [he0] at h
  simp only at h
  split at h
  ·rename_i s hT
   split at h
   ·rename_i l hh hbl hbh
    simp only [Ac.val.injEq,decide_eq_true_eq] at h
    obtain ⟨⟨h0,h1,h2⟩,rfl⟩:=h
    cases hx
    have q1:=ag5 hlo hlo' hbl
    have q2:=ag5 hhi hhi' hbh
    have hsz:(⟨s.toArray⟩:ByteArray).size=s.length:=by show s.toArray.size=_;simp
    have hr:=ahl (Γ:=Γ) (w:=w) false s.length s.length lov hiv l hh q1 q2 h0 h1 h2 (Nat.le_refl _)
    refine ⟨_,?_,.str (s:=(s.take hh.toNat).drop l.toNat)⟩
    simp only [Instr.sliceAt,Sem.run_bind,run_underlying hT,Result.andThen_ok,Instr.slice,hsz,Option.isSome_none,Bool.false_eq_true,if_false,Sem.run_pure,ByteArray.extract_mk,List.drop_take]
    rw [hr]
    rfl
   ·simp at h
  ·rename_i x0 _ _ E hT
   split at h
   ·rename_i xs hl
    split at h
    ·rename_i l hh hbl hbh
     cases he:(alu Γ.P E x0&&!(Nat.beq (Γ.P.cellsOf E) 0)) with
     | false=>rw [he] at h;simp at h
     | true=>
      rw [he] at h
      simp only [cond_true,Ac.val.injEq,decide_eq_true_eq] at h
      obtain ⟨⟨h0,h1,h2⟩,rfl⟩:=h
      simp only [Bool.and_eq_true,Bool.not_eq_true'] at he
      have hne:Γ.P.cellsOf E≠0:=fun e=>by rw [e] at he;cases he.2
      have hsl:=aki hx hl he.1
      have q1:=ag5 hlo hlo' hbl
      have q2:=ag5 hhi hhi' hbh
      cases hsl with
      | @nil ad cp hac=>
       have e1:hh=0:=by simp at h2;omega
       have e2:l=0:=by omega
       subst e1;subst e2
       obtain ⟨inf,hi,hs⟩:=aa5 hne
       have hr:=ahl (Γ:=Γ) (w:=w) true 0 cp lov hiv 0 0 q1 (by simpa using q2) (by omega) (by omega) (by omega) (Nat.zero_le _)
       refine ⟨.slice (if cp=0 then ad else ad.map (·.add (0*Γ.P.cellsOf E))) 0 cp,?_,.slice (.nil fun he=>?_)⟩
       ·simp only [Instr.sliceAt,Sem.run_bind,run_underlying hT,Result.andThen_ok,Instr.slice,hr,aa3 hi hs]
        rfl
       ·by_cases hc:cp=0
        ·exact hc
        ·rw [if_neg hc] at he
         cases ad with
         | none=>exact hac rfl
         | some a=>simp at he
      | @mk b off cap _ L hcap hL hrep hheld=>
       obtain ⟨inf,hi,hs⟩:=aa5 hne
       have hr:=ahl (Γ:=Γ) (w:=w) true xs.length cap lov hiv l hh q1 q2 h0 h1 h2 hcap
       have hlen:((xs.take hh.toNat).drop l.toNat).length=hh.toNat-l.toNat:=by simp;omega
       by_cases e:cap=l.toNat
       ·have e0:hh.toNat-l.toNat=0:=by omega
        have e1:(xs.take hh.toNat).drop l.toNat=[]:=List.eq_nil_of_length_eq_zero (by omega)
        refine ⟨.slice (some ⟨b,off,none⟩) 0 0,?_,?_⟩
        ·simp only [Instr.sliceAt,Sem.run_bind,run_underlying hT,Result.andThen_ok,Instr.slice,hr,aa3 hi hs,Sem.run_pure,Option.map_some,ab6]
         rw [if_pos e,e0,e,Nat.sub_self]
        ·rw [e1]
         exact .slice (.mk (xs:=[]) (L:=[]) (by simp) (by simp) (fun i y hy=>by simp at hy) (fun j v hj=>by simp at hj))
       refine ⟨.slice (some ⟨b,off+l.toNat*Γ.P.cellsOf E,none⟩) (hh.toNat-l.toNat) (cap-l.toNat),?_,?_⟩
       ·simp only [Instr.sliceAt,Sem.run_bind,run_underlying hT,Result.andThen_ok,Instr.slice,hr,aa3 hi hs,Sem.run_pure,Option.map_some,ab6]
        rw [if_neg e]
       ·rw [<-hlen]
        refine .slice (.mk (L:=(L.drop (l.toNat*Γ.P.cellsOf E)).take ((hh.toNat-l.toNat)*Γ.P.cellsOf E)) (by rw [hlen];omega) ?_ (fun i y hy=>?_) (hheld.sub _ _))
        ·rw [hlen]
         have:hh.toNat*Γ.P.cellsOf E<=xs.length*Γ.P.cellsOf E:=Nat.mul_le_mul_right _ (by omega)
         have h3:(hh.toNat-l.toNat)*Γ.P.cellsOf E=hh.toNat*Γ.P.cellsOf E-l.toNat*Γ.P.cellsOf E:=Nat.sub_mul _ _ _
         rw [List.length_take,List.length_drop,hL]
         omega
        ·have hlt:i<hh.toNat-l.toNat:=by have:=(List.getElem?_eq_some_iff.1 hy).1;omega
         rw [List.getElem?_drop,List.getElem?_take_of_lt (by omega)] at hy
         have:=hrep _ _ hy
         rw [Nat.add_mul] at this
         rw [List.drop_take,List.take_take,List.drop_drop,Nat.min_eq_left]
         ·exact this
         ·have h4:(i+1)*Γ.P.cellsOf E<=(hh.toNat-l.toNat)*Γ.P.cellsOf E:=Nat.mul_le_mul_right _ (by omega)
          rw [Nat.add_mul] at h4;omega
    ·simp at h
   ·simp at h
  ·simp at h
theorem az4 (hw:WRel Γ D ow μ st w) (T:TypeId) (x:SV) (xv:Value) (v:SV) (hx:SRep Γ.P D w ow μ st x xv) (h:apl Γ.P T st x=.val true v) (ty:TypeId):
 ∃ u,(Builtin.len_ #[T] ty #[xv]).run Γ.P w=.ok u w/\SRep Γ.P D w ow μ st v u:=by
 unfold apl at h
 split at h
 ·rename_i s hT
  simp only [Ac.val.injEq,true_and] at h;subst h
  cases hx
  have hsz:(⟨s.toArray⟩:ByteArray).size=s.length:=by show s.toArray.size=_;simp
  exact ⟨.int .i64 s.length,by simp [Builtin.len_,run_underlying hT,goInt,hsz],.int⟩
 ·rename_i E E' xs hT
  simp only [Ac.val.injEq,true_and] at h;subst h
  cases hx with
  | slice hs=>cases hs<;>exact ⟨_,by simp [Builtin.len_,run_underlying hT,goInt],.int⟩
 ·rename_i E k g E' xs hT
  simp only [Ac.val.injEq,true_and] at h;subst h
  cases hx with
  | acc hs=>cases hs<;>exact ⟨_,by simp [Builtin.len_,run_underlying hT,goInt],.int⟩
 ·rename_i E E' xs hT
  simp only [Ac.val.injEq,true_and] at h;subst h
  cases hx with
  | lit hs=>exact ⟨_,by simp [Builtin.len_,run_underlying hT,goInt],.int⟩
 ·rename_i E hT
  simp only [Ac.val.injEq,true_and] at h;subst h
  cases hx
  exact ⟨_,by simp [Builtin.len_,run_underlying hT,goInt],.int⟩
 ·rename_i E k g E' hT
  split at h
  ·rename_i xs hat
   have hk0:=adg hat
   simp only [Ac.val.injEq,true_and] at h;subst h
   cases hx with
   | arrOld hk hg=>rw [hk0] at hk;cases hk;omega
   | arrNil hk=>rw [hk0] at hk;cases hk;exact ⟨_,by simp [Builtin.len_,run_underlying hT,goInt],.int⟩
   | arr hk=>rw [hk0] at hk;cases hk;exact ⟨_,by simp [Builtin.len_,run_underlying hT,goInt],.int⟩
  ·cases h
 ·rename_i K E K' E' es hT
  simp only [Ac.val.injEq,true_and] at h;subst h
  cases hx with
  | map hs=>
   cases hs with
   | nil=>exact ⟨_,by simp [Builtin.len_,run_underlying hT,goInt],.int⟩
   | mk kc vc hh hd hsz=>exact ⟨.int .i64 es.length,by simp [Builtin.len_,run_underlying hT,goInt,getObj,Sem.run,hh,hsz],.int⟩
 ·rename_i K E k hT
  split at h
  ·rename_i K' E' es hk
   simp only [Ac.val.injEq,true_and] at h;subst h
   cases hx
   obtain ⟨ents,clock,kc,vc,h1,_,_,h4,_⟩:=hw.map k K' E' es hk
   exact ⟨.int .i64 es.length,by simp [Builtin.len_,run_underlying hT,goInt,getObj,Sem.run,h1,h4],.int⟩
  ·simp at h
 ·simp at h
theorem atb (S:TypeId) (i:Nat) (a:SV) (av:Value) (v:SV) (ha:SRep Γ.P D w ow μ st a av) (h:ah5 Γ.P S i a=.val true v):
 ∃ u,(Instr.field S av i).run Γ.P w=.ok u w/\SRep Γ.P D w ow μ st v u:=by
 unfold ah5 at h
 split at h
 ·rename_i fs hS
  split at h
  ·rename_i f hf
   cases hc:(abz Γ.P S&&aa1 Γ.P f.type) with
   | false=>rw [hc] at h;simp at h
   | true=>
    rw [hc] at h
    simp only [cond_true] at h
    simp only [Bool.and_eq_true,aa1,Bool.not_eq_true',Bool.or_eq_true] at hc
    obtain ⟨hL,⟨hb2,hb3⟩,hb4⟩:=hc
    have hL:=ab9 hL hS
    have key:∀ cs:List Value,cs.length=Γ.P.cellsOf S->(Instr.field S (.agg cs.toArray) i).run Γ.P w=.ok (pack Γ.P f.type ((cs.drop f.offset).take (Γ.P.cellsOf f.type))) w:=by
     intro cs hl
     have hp:=aqa hb3 cs f.offset (by rw [hl];exact hL.inside i f hf) (hb4.imp id Nat.eq_of_beq_eq_true) w
     simp only [Instr.field,Sem.run_bind,run_underlying hS,Result.andThen_ok,hf,asAgg,Sem.run_pure]
     exact hp
    split at h
    ·rename_i T pv
     cases hb:Nat.beq S T with
     | false=>rw [hb] at h;simp at h
     | true=>
      rw [hb] at h
      simp only [cond_true,Ac.val.injEq,true_and] at h
      have:=Nat.eq_of_beq_eq_true hb;subst this;subst h
      cases ha with
      | @data _ _ cs hagg hr=>
       refine ⟨_,key cs (hr.aggLen hagg),?_⟩
       cases hr with
       | @agg _ fs2 vs _ hT2 hl2 ho2 hv2 hr2=>
        rw [hS] at hT2;cases hT2
        have hlt:i<vs.length:=by rw [hv2];exact (Array.getElem?_eq_some_iff.1 hf).1
        have hvi:vs[i]?=some vs[i]:=List.getElem?_eq_getElem hlt
        rw [apc hvi]
        exact (hr2 i vs[i] f hvi hf).ofPV
       | arr hT2=>rw [hS] at hT2;cases hT2
       | bool hT2=>rw [hS] at hT2;cases hT2
       | int hT2=>rw [hS] at hT2;cases hT2
       | str hT2=>rw [hS] at hT2;cases hT2
       | nil hT2=>rw [hS] at hT2;cases hT2
       | slice hT2=>rw [hS] at hT2;cases hT2
       | mapnil hT2=>rw [hS] at hT2;cases hT2
       | map _ _ hT2=>rw [hS] at hT2;cases hT2
       | raw hr2=>simp [rawT,hS] at hr2
    ·rename_i T vs
     cases hb:Nat.beq S T with
     | false=>rw [hb] at h;simp at h
     | true=>
      rw [hb] at h
      simp only [cond_true] at h
      have:=Nat.eq_of_beq_eq_true hb;subst this
      split at h
      ·rename_i x hx
       simp only [Ac.val.injEq,true_and] at h;subst h
       cases ha with
       | @agg _ fs2 _ cs hT2 hl2 ho2 hv2 hp2=>
        rw [hS] at hT2;cases hT2
        exact ⟨_,key cs hl2,hp2 i _ f hx hf⟩
      ·simp at h
    ·simp at h
  ·simp at h
 ·simp at h
end
end Go.Ab
