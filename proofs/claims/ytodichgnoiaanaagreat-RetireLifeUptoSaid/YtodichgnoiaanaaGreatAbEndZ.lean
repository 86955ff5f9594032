/- From a function's contract over plain data to the law that its row asks for. -/
import Derived.Test.YtodichgnoiaanaaGreatAbBridgeZ
import Derived.Test.YtodichgnoiaanaaGreatRows
import Derived.WalkKit
import Derived.ProofKit
import Derived.OpenShut
import Derived.Carry
import Derived.ChangeSame
import Derived.Deep.DeepHandedRow
import Derived.Stop.LaidErr
set_option linter.unusedVariables false
set_option linter.unusedSimpArgs false
set_option linter.unnecessarySimpa false
namespace Go.Ab
open Go Go.Proofs Go.Proofs.YtodichgnoiaanaaGreat Go.ChangeShapes Go.WideShapes Go.ChangeAt Go.RowKit
def a1t (P:Program) (t:TypeId) (p:PV):SV:=
 match P.underlying t with
 | some .bool=>.bool p.asBool
 | some (.int k)=>.int k p.asInt
 | some .string=>.str p.asStr
 | some (.slice E)=>.slice E p.asList
 | _=>.data t p
section
variable {H:Type}{enc:TypeId×Value->H}{P:Program}{w:World}{S:List TypeId}
def alc (P:Program) (w:World):List TypeId->List Value->List PV->Prop
 | [],[],[]=>True
 | t::ts,v::vs,p::ps=>(Rep P (fun b _=>b<w.heap.size) w t p v.cells.toList/\∃ n,aa8 P n t p)/\alc P w ts vs ps
 | _,_,_=>False
theorem ayi (hS:ahj P S=true):∀ (ts:List TypeId) (vs:List Value) (ds:List (DataW H)) (ps:List MemPlace),(ts.all fun t=>S.any (Nat.beq t))=true->
 DataW.TrodAll enc P w 0 (fun _=>true) true ts vs ds ps->∃ pvs:List PV,alc P w ts vs pvs/\aaw pvs<=Rows.uptoBulkAll ds:=by
 intro ts
 induction ts with
 | nil=>
  intro vs ds ps _ h
  obtain ⟨rfl,rfl,rfl⟩:=trodAll_nil h
  exact ⟨[],trivial,by simp [aaw,Rows.uptoBulkAll]⟩
 | cons t ts ih=>
  intro vs ds ps ht h
  simp only [List.all_cons,Bool.and_eq_true] at ht
  obtain ⟨v,vs',d,ds',p,q,rfl,rfl,rfl,h0,hr⟩:=trodAll_cons h
  obtain ⟨pvs,g1,g2⟩:=ih vs' ds' q ht.2 hr
  obtain ⟨fuel,hf⟩:=h0
  obtain ⟨pv,⟨q1,q2⟩,q3⟩:=a3u hS fuel t _ d p ht.1 hf
  exact ⟨pv::pvs,⟨⟨q1,fuel,q2⟩,g1⟩,by simp only [aaw,Rows.uptoBulkAll];omega⟩
theorem a1u {D:Dom}{ow:Own}{μ:Nat->Nat}{st:List BX}{base:Nat}{t:TypeId}{v:Value}{p:PV}{n:Nat} (hp:ajc P S t=true) (hok:Value.okWide P w .any base t v)
 (hr:Rep P D w t p v.cells.toList) (hg:aa8 P n t p):SRep P D w ow μ st (a1t P t p) v:=by
 cases n with
 | zero=>cases hg
 | succ n=>
  unfold ajc at hp
  unfold aa8 at hg
  unfold a1t
  split at hp
  ·rename_i hu
   simp only [hu] at hg ⊢
   obtain ⟨b,rfl⟩:=hg
   obtain ⟨b',rfl⟩:=okWide_bool hu hok
   simp only [Value.cells] at hr
   cases hr with
   | bool _=>exact .bool
  ·rename_i k hu
   simp only [hu] at hg ⊢
   obtain ⟨m,rfl,_⟩:=hg
   have hv:∃ m',v=.int k m':=by
    simp only [Value.okWide,hu,Cell.okWide,Cell.ok] at hok
    split at hok<;>simp_all
   obtain ⟨m',rfl⟩:=hv
   simp only [Value.cells] at hr
   cases hr with
   | int _=>exact .int
  ·rename_i hu
   simp only [hu] at hg ⊢
   obtain ⟨s,rfl⟩:=hg
   have hv:∃ m',v=.string m':=by
    simp only [Value.okWide,hu,Cell.okWide,Cell.ok] at hok
    split at hok<;>simp_all
   obtain ⟨m',rfl⟩:=hv
   simp only [Value.cells] at hr
   cases hr with
   | str _=>exact .str
  ·rename_i E hu
   simp only [hu] at hg ⊢
   obtain ⟨u,hc,hs⟩:=hr.sliceRep hu
   have hv:∃ a l c,v=.slice a l c:=by
    simp only [Value.okWide,hu,Cell.okWide,Cell.ok] at hok
    split at hok<;>simp_all
   obtain ⟨a,l,c,rfl⟩:=hv
   have:Value.slice a l c=u:=by simpa [Value.cells] using hc
   subst this
   exact .slice hs
  ·rename_i fs hu
   simp only [hu] at hg ⊢
   have hv:∃ cs,v=.agg cs:=by
    simp only [Value.okWide,hu] at hok
    obtain ⟨cs,h,_⟩:=hok
    exact ⟨cs,h⟩
   obtain ⟨cs,rfl⟩:=hv
   have:=SRep.data (P:=P) (D:=D) (w:=w) (ow:=ow) (μ:=μ) (st:=st) (T:=t) (v:=p) (cs:=cs.toList) (by simp [aaj,hu]) (by simpa [Value.cells] using hr)
   simpa using this
  ·rename_i k E hu
   simp only [hu] at hg ⊢
   have hv:∃ cs,v=.agg cs:=by
    simp only [Value.okWide,hu] at hok
    obtain ⟨cs,h,_⟩:=hok
    exact ⟨cs,h⟩
   obtain ⟨cs,rfl⟩:=hv
   have:=SRep.data (P:=P) (D:=D) (w:=w) (ow:=ow) (μ:=μ) (st:=st) (T:=t) (v:=p) (cs:=cs.toList) (by simp [aaj,hu]) (by simpa [Value.cells] using hr)
   simpa using this
  ·cases hp
def ahr (P:Program) (ts:List TypeId) (pvs:List PV):List SV:=List.zipWith (a1t P) ts pvs
theorem ayj {ow:Own}{μ:Nat->Nat}{st:List BX}{base:Nat} (hS:ahj P S=true):∀ (ts:List TypeId) (vs:List Value) (pvs:List PV),(ts.all fun t=>S.any (Nat.beq t))=true->
 (∀ (j:Nat) t v,ts[j]?=some t->vs[j]?=some v->Value.okWide P w .any base t v)->alc P w ts vs pvs->
 (vs.length=ts.length/\(ahr P ts pvs).length=ts.length/\pvs.length=ts.length)/\∀ (i:Nat) (s:SV) (v:Value),(ahr P ts pvs)[i]?=some s->vs[i]?=some v->SRep P (fun b _=>b<w.heap.size) w ow μ st s v:=by
 intro ts
 induction ts with
 | nil=>
  intro vs pvs _ _ h
  cases vs<;>cases pvs<;>simp_all [alc,ahr]
 | cons t ts ih=>
  intro vs pvs ht hval h
  simp only [List.all_cons,Bool.and_eq_true] at ht
  cases vs with
  | nil=>cases pvs<;>cases h
  | cons v vs=>
   cases pvs with
   | nil=>cases h
   | cons p pvs=>
    obtain ⟨⟨h1,n,h2⟩,h3⟩:=h
    obtain ⟨⟨l1,l2,l3⟩,g⟩:=ih vs pvs ht.2 (fun j t v hj hv=>hval (j+1) t v (by simpa using hj) (by simpa using hv)) h3
    refine ⟨⟨by simp [l1],by simpa [ahr] using l2,by simp [l3]⟩,fun i s v' hi hv=>?_⟩
    cases i with
    | zero=>
     simp [ahr] at hi hv
     subst hi hv
     exact a1u (aks hS ht.1) (hval 0 t v rfl rfl) h1 h2
    | succ i=>exact g i s v' (by simpa [ahr] using hi) (by simpa using hv)
theorem ayh {w:World}:∀ (ts:List TypeId) (vs:List Value) (pvs:List PV),alc P w ts vs pvs->∀ (i:Nat) (t:TypeId) (p:PV),ts[i]?=some t->pvs[i]?=some p->∃ n,aa8 P n t p:=by
 intro ts
 induction ts with
 | nil=>intro vs pvs _ i t p hi;simp at hi
 | cons t ts ih=>
  intro vs pvs h i t' p hi hp
  cases vs with
  | nil=>cases pvs<;>cases h
  | cons v vs=>
   cases pvs with
   | nil=>cases h
   | cons q pvs=>
    obtain ⟨⟨_,h2⟩,h3⟩:=h
    cases i with
    | zero=>simp at hi hp;subst hi hp;exact h2
    | succ i=>exact ih vs pvs h3 i t' p (by simpa using hi) (by simpa using hp)
theorem auu:∀ (ts:List TypeId) (vs:List Value) (ds:List (DataW H)) (ps:List MemPlace),DataW.TrodAll enc P w 0 (fun _=>true) true ts vs ds ps->ds.length=ts.length:=by
 intro ts
 induction ts with
 | nil=>
  intro vs ds ps h
  obtain ⟨_,rfl,_⟩:=trodAll_nil h
  rfl
 | cons t ts ih=>
  intro vs ds ps h
  obtain ⟨v,vs',d,ds',p,q,rfl,rfl,rfl,h0,hr⟩:=trodAll_cons h
  simp [ih _ _ _ hr]
theorem aso (hl:laidOutB P=true) {W W':World} (hb:Below W.heap.size W W'):∀ (ts:List TypeId) (vs:List Value) (ds:List (DataW H)) (ps:List MemPlace),(ts.all fun t=>P.readableRec t&&decide (t<P.types.size))=true->
 DataW.TrodAll enc P W 0 (fun _=>true) true ts vs ds ps->∀ sp:Nat->Bool,(∀ p∈ps,sp p.block=true)->(∀ p∈ps,p.block<W.heap.size)->DataW.TrodAll enc P W' 0 sp true ts vs ds ps:=by
 intro ts
 induction ts with
 | nil=>
  intro vs ds ps _ h sp _ _
  obtain ⟨rfl,rfl,rfl⟩:=trodAll_nil h
  exact trodAll_mk0
 | cons t ts ih=>
  intro vs ds ps ht h sp hsp hlt
  simp only [List.all_cons,Bool.and_eq_true,decide_eq_true_eq] at ht
  obtain ⟨v,vs',d,ds',p,q,rfl,rfl,rfl,h0,hr⟩:=trodAll_cons h
  exact trodAll_cons_mk (WideElems.Trod_stays hl ht.1.1 ht.1.2 h0 (fun x hx=>hb.same (hlt x (by simp [hx]))) (fun x hx=>hsp x (by simp [hx])))
   (ih vs' ds' q ht.2 hr sp (fun x hx=>hsp x (by simp [hx])) (fun x hx=>hlt x (by simp [hx])))
theorem a5p {f:FuncId}{fn:Func}{s:ChangeSpec}{apart:Bool}{W:World}{base N:Nat}{args:Array Value}{ds gs:List (DataW H)}{before:List MemPlace}{tb:TypeId}
 (hl:laidOutB P=true) (hrd:(fn.params.toList.all fun t=>P.readableRec t&&decide (t<P.types.size))=true) (hvars:s.vars=[]) (hres:fn.resultTypes=#[tb]) (htb:P.underlying tb=some .bool)
 (hS:ahj P S=true) (hps:(fn.params.toList.all fun t=>S.any (Nat.beq t))=true)
 (hfn:∀ ds:List (DataW H),ds.length=fn.params.toList.length->s.fn H ds={ results:=[.lit (.bool true)],args:=ds })
 (hval:∀ (j:Nat) t v,fn.params[j]?=some t->args[j]?=some v->Value.okWide P W .any base t v)
 (hW:DataW.Whole enc P fn.params.toList s.vars apart W args.toList ds gs before) (hN:Rows.uptoBulkAll (ds++gs)<=N) (ht:Tabs P (fun _=>none) W)
 (hm:∀ pvs:List PV,pvs.length=fn.params.toList.length->(∀ (i:Nat) (t:TypeId) (p:PV),fn.params.toList[i]?=some t->pvs[i]?=some p->∃ n,aa8 P n t p)->aaw pvs<=N->
  Meets P f (ahr P fn.params.toList pvs) [] [.bool true] []):
 Calls P f args W fun e W'=>∃ v,e=.returned v/\s.post enc P fn apart true false false W args v W':=by
 have hW':=hW
 obtain ⟨p,q,hA,hV,rfl,hfz,hnd⟩:=hW
 rw [hvars] at hV
 obtain ⟨rfl,rfl⟩:=trodVars_none hV
 simp only [List.append_nil] at hW' hN
 obtain ⟨pvs,hreps,hbulk⟩:=ayi (S:=S) hS _ _ _ _ hps hA
 obtain ⟨⟨l1,l2,l3⟩,hs⟩:=ayj (S:=S) (base:=base) (ow:=fun _=>none) (μ:=id) (st:=[]) hS _ _ _ hps (fun j t v hj hv=>hval j t v (by simpa using hj) (by simpa using hv)) hreps
 have hdl:ds.length=fn.params.toList.length:=by
  exact auu _ _ _ _ hA
 refine ((hm pvs l3 (ayh _ _ _ hreps) (Nat.le_trans hbulk hN)).2 (fun b _=>b<W.heap.size) (fun _=>none) id W args
  ⟨by have:=l1;simp only [Array.length_toList] at this l2;rw [this,l2],fun i s v hi hv=>hs i s v hi (by simpa using hv),⟨fun k b hk=>(by simp at hk),fun b k hk=>(by cases hk),fun b o hb=>hb,fun b k x hk=>(by cases hk)⟩,ht⟩).mono ?_
 rintro e W' ⟨v,D',rfl,hp⟩
 refine ⟨v,rfl,?_⟩
 have hb:Below W.heap.size W W':=⟨hp.os,hp.tape,hp.output,hp.size,fun k hk=>hp.old k hk rfl⟩
 have hv:v=.bool true:=by
  obtain ⟨ow',μ',hr⟩:=hp.rest
  have:=hr.res
  cases this
  rfl
 subst hv
 have hlt:∀ x∈p,x.block<W.heap.size:=fun x hx=>hW'.lt x hx
 have hold:∀ x∈p,(fun b=>decide (b<W.heap.size)) x.block=true:=fun x hx=>by simpa using hlt x hx
 have hfs:s.fn H (ds++[])={ results:=[.lit (.bool true)],args:=ds }:=by rw [List.append_nil];exact hfn ds hdl
 have hrs:∀ (b:Nat) (sp:Nat->Bool) (hd:Bool),DataW.TrodAll enc P W' b sp hd fn.resultTypes.toList ((Value.bool true).resultList fn.resultTypes.size) (s.fn H (ds++[])).results []:=by
  intro b sp hd
  rw [hfs,hres]
  exact trodAll_mk1 (shut_bool htb _)
 have hvs:∀ sp:Nat->Bool,DataW.TrodVars enc P W' sp s.vars (s.fn H (ds++[])).vars []:=by
  intro sp
  rw [hfs,hvars]
  rfl
 have har:∀ sp:Nat->Bool,(∀ x∈p,sp x.block=true)->DataW.TrodAll enc P W' 0 sp true fn.params.toList args.toList (s.fn H (ds++[])).args p:=by
  intro sp hsp
  rw [hfs]
  exact aso hl hb _ _ _ _ hrd hA sp hsp hlt
 refine ⟨ds,[],p,[],p,[],by simpa using hW',hrs _ _ _,har _ hold,hvs _,World.keptBut_mono (fun x hx=>⟨hx,?_⟩) (hb.frame (·∈p)),fun _=>?_⟩
 ·exact Or.inr (Or.inl hx)
 ·refine ⟨ok_one hres rfl (okWide_bool_mk htb _),_,_,([]++p)++[],⟨[]++p,[],trodAll_append (har _ (fun _ _=>rfl)) (hrs _ _ _),hvs _,rfl,?_,?_⟩,?_⟩
  ·intro b off hx
   have hin:MemPlace.cell b off∈p:=by simpa using hx
   rw [hb.frozen (hlt _ hin)]
   exact hfz b off (by simpa using hin)
  ·intro ha
   have:=hnd ha
   simpa using this
  ·intro x hx _
   simpa using hx
end
end Go.Ab
