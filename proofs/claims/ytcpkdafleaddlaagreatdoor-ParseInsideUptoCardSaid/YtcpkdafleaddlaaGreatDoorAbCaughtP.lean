/- A function that runs its argument and hands back what it panics with. -/
import Derived.Test.YtcpkdafleaddlaaGreatDoorAbLoop
import Derived.Test.YtcpkdafleaddlaaGreatDoorAbPrsP
import Derived.Tactics
import Derived.Tactics2
import Derived.Defers
import Derived.Recover
set_option linter.unusedVariables false
set_option linter.unusedSimpArgs false
set_option linter.unnecessarySimpa false
namespace Go.Ab
open Go Go.Proofs
section
variable {P:Program}{D:Dom}{ow:Own}{μ:Nat->Nat}{st:List BX}{w w':World}
theorem am0 {c:Nat} (hc:ow c=none) (hd:∀ o,¬D c o) (ho:Objs P D ow μ st w) (hh:∀ b,b≠c->b<w.heap.size->w'.heap[b]?=w.heap[b]?):Moves D w ow μ st D w' ow μ st:=by
 have hk:∀ b o,D b o->w'.heap[b]?=w.heap[b]?:=fun b o d=>hh b (fun e=>hd o (e▸d)) (ho.dlt b o d)
 have hw:∀ b k,ow b=some k->w'.heap[b]?=w.heap[b]?:=fun b k o=>hh b (fun e=>by rw [e,hc] at o;cases o) (ho.owlt b k o).1
 refine ⟨fun _ _ d=>d,Keeps.of_heap hk,fun k T v e=>⟨rfl,v,e⟩,fun k K E es e=>⟨rfl,es,e⟩,fun k b e _=>⟨rfl,b,e,rfl⟩,fun k E g xs e=>⟨g,xs,e,Nat.le_refl _,fun _=>⟨rfl,fun cur h1 h2=>⟨rfl,h2,cur,?_,rfl⟩⟩⟩,fun k g e=>⟨g,e,Nat.le_refl _,fun _ b ob=>⟨hw b k ob,ob,fun o d=>d⟩⟩⟩
 rw [hw _ _ h2];exact h1
theorem av4 {c:Nat} (hc:ow c=none) (hd:∀ o,¬D c o) (ho:Objs P D ow μ st w) (hs:w.heap.size<=w'.heap.size) (hh:∀ b,b≠c->b<w.heap.size->w'.heap[b]?=w.heap[b]?):Objs P D ow μ st w':=by
 have m:=am0 hc hd ho hh
 have hw:∀ b k,ow b=some k->w'.heap[b]?=w.heap[b]?:=fun b k o=>hh b (fun e=>by rw [e,hc] at o;cases o) (ho.owlt b k o).1
 refine ⟨fun k b e=>?_,fun b k o=>⟨Nat.lt_of_lt_of_le (ho.owlt b k o).1 hs,(ho.owlt b k o).2⟩,fun b o d=>Nat.lt_of_lt_of_le (ho.dlt b o d) hs,ho.lone⟩
 have h0:=ho.obj k b e
 cases b with
 | box T s=>
  obtain ⟨cells,T',h1,h2,h3,h4,h5⟩:=h0
  exact ⟨cells,T',by rw [hw _ _ h3];exact h1,h2,h3,h4,h5.mono m⟩
 | map K E es=>
  obtain ⟨ents,clock,kc,vc,h1,h2,h3,h4,h5,h6,h7⟩:=h0
  exact ⟨ents,clock,kc,vc,by rw [hw _ _ h2];exact h1,h2,h3,h4,fun i x a=>(h5 i x a).mono m.dom m.keeps,fun i x a=>(h6 i x a).mono m.dom m.keeps,h7⟩
 | acc g=>trivial
 | iter s p=>
  obtain ⟨h1,h2,h3⟩:=h0
  exact ⟨by rw [hw _ _ h2];exact h1,h2,h3⟩
 | bld T bs=>
  obtain ⟨p,v,h1,h2,h3,h4,h5⟩:=h0
  refine ⟨p,v,by rw [hw _ _ h3];exact h1,h2,h3,h4,?_⟩
  rcases h5 with h5 | ⟨g,cap,cur,fz,q1,q2,q3,q4,q5,q6,q7,q8,q9,q10⟩
  ·exact Or.inl h5
  ·exact Or.inr ⟨g,cap,cur,fz,q1,by rw [hw _ _ q9];exact q2,q3,q4,q5,q6,q7,q8,q9,q10⟩
 | arr E g xs=>
  rcases h0 with h0 | ⟨cur,h1,h2,h3,h4,h5⟩
  ·exact Or.inl h0
  ·exact Or.inr ⟨cur,by rw [hw _ _ h2];exact h1,h2,h3,h4,fun i x a=>(h5 i x a).mono m.dom m.keeps⟩
 | hole=>trivial
end
theorem az9 (b:Nat) (cs:List Value) (w:World) (cur:Array Value) (hc:w.heap[b]?=some (.cells cur 84 (0,0))) (hcur:cur.size=2) (hcs:cs.length=2) (h1:∀ c,c∈cs->c.oneCell'=true):
 (storeCells ⟨b,0,none⟩ cs).run Tryz.prog w=.ok () (w.setRow b cs.toArray):=by
 have hst:=run_storeCells_at Tryz.prog b 0 84 cs 0 cur w hc (by omega) h1
 have e:(List.take (0+0) cur.toList++cs++List.drop (0+0+cs.length) cur.toList)=cs:=by
  rw [List.drop_eq_nil_of_le (by simp;omega)];simp
 rw [e] at hst
 exact hst
theorem bap (v:Value) (w:World) (hv:∃ u,v=.iface 84 u):(binOp BinOp.neq 20 v .nilIface).run Tryz.prog w=.ok (.bool true) w:=by
 obtain ⟨u,rfl⟩:=hv
 kernel_rfl
theorem a9x (w:World):(binOp BinOp.neq 20 .nilIface .nilIface).run Tryz.prog w=.ok (.bool false) w:=by kernel_rfl
theorem a9t (u:Value) (w:World):(Instr.typeAssert (.iface 84 u) 20 84 false).run Tryz.prog w=.ok u w:=by
 kernel_rfl
theorem amk (b:Nat) (cs:List Value) (older:List PanicEntry) (w:World) (cur:Array Value) (hc:w.heap[b]?=some (.cells cur 84 (0,0))) (hcur:cur.size=2) (hcs:cs.length=2) (h1:∀ c,c∈cs->c.oneCell'=true):
 CallsD Tryz.prog 90 #[.pointer (some ⟨b,0,none⟩)] (.panicking ({ v:=.iface 84 (.agg cs.toArray),recovered:=false }::older)) w fun e u' w'=>
  e=.returned (.tuple #[])/\u'=.panicking ({ v:=.iface 84 (.agg cs.toArray),recovered:=true }::older)/\w'=w.setRow b cs.toArray:=by
 refine callsD_of_wpS Tryz.func90 rfl fun c₀ cs' hm=>?_
 have hs:=az9 b cs w cur hc hcur hcs h1
 apply wpS_seq
 apply wpS_region
 simp [wpOpsS,go_sem,recoverD,hm,Tryz.ntmps90,Exit.thenS]
 apply wpS_seq
 apply wpS_region
 simp [wpOpsS,go_sem,bap,Exit.thenS]
 refine wpS_cond (t:=true) (by simp [Act.eval,Array.replicate]) ?_
 simp only [if_true]
 apply wpS_region
 simp [wpOpsS,go_sem,a9t,hcs,hs,bodyPostS,results,Tryz.results90]
theorem axu (p:Addr) (w:World):
 CallsD Tryz.prog 90 #[.pointer (some p)] .returning w fun e u' w'=>e=.returned (.tuple #[])/\u'=.returning/\w'=w:=by
 refine callsD_of_wpS Tryz.func90 rfl fun c₀ cs hu=>?_
 apply wpS_seq
 apply wpS_region
 simp [wpOpsS,go_sem,recoverD,hu,Tryz.ntmps90,Exit.thenS]
 apply wpS_seq
 apply wpS_region
 simp [wpOpsS,go_sem,a9x,Exit.thenS]
 refine wpS_cond (t:=false) (by simp [Act.eval,Array.replicate]) ?_
 simp only [Bool.false_eq_true,if_false]
 refine wpS_of_wp (wp_skip ?_)
 cases c₀
 simp_all [bodyPostS,results,Tryz.results90]
structure ButOne (c:Nat) (w w':World):Prop where
 os:w'.os=w.os
 tape:w'.tape=w.tape
 output:w'.output=w.output
 size:w'.heap.size=w.heap.size
 blk:∀ b,b≠c->w'.heap[b]?=w.heap[b]?
theorem ButOne.cell (c o:Nat) (w:World) (v:Value):ButOne c w (w.setCell ⟨c,o,none⟩ v):=⟨rfl,rfl,rfl,by simp [World.setCell],fun b hb=>RowKit.Below.heap_setCell w _ v b hb⟩
theorem ButOne.row (c:Nat) (w:World) (cs:Array Value):ButOne c w (w.setRow c cs):=⟨rfl,rfl,rfl,by simp [World.setRow],fun b hb=>setRow_other w c b cs hb⟩
theorem ButOne.trans {c:Nat}{w w' w'':World} (h:ButOne c w w') (k:ButOne c w' w''):ButOne c w w'':=
 ⟨k.os.trans h.os,k.tape.trans h.tape,k.output.trans h.output,k.size.trans h.size,fun b hb=>(k.blk b hb).trans (h.blk b hb)⟩
theorem amd {R:Ending->World->Prop} (g:FuncId) (us vs:Array Value) (w:World) (hg:ajw Tryz.prog g)
 (h:Calls Tryz.prog g (us++vs) (w.alloc (.cells #[.int .i64 0,.int .i64 0] 84)) fun e w'=>w'.heap[w.heap.size]?=some (.cells #[.int .i64 0,.int .i64 0] 84 (0,0))/\
  ((∃ v,e=.returned v/\∀ w'',ButOne w.heap.size w' w''->R (.returned (.agg #[.int .i64 0,.int .i64 0])) w'')∨
   ∃ cs:List Value,cs.length=2/\(∀ c,c∈cs->c.oneCell'=true)/\e=.panicked [{ v:=.iface 84 (.agg cs.toArray),recovered:=false }]/\∀ w'',ButOne w.heap.size w' w''->R (.returned (.agg cs.toArray)) w'')):
 Calls Tryz.prog 43 #[.func (.func g) us vs] w R:=by
 have hmf:∀ (fn:Fn) (first cap:Array Value) (w:World),(Instr.makeFunc fn first cap).run Tryz.prog w=.ok (.func fn first cap) w:=fun _ _ _ _=>rfl
 go_enter_defers Tryz.func43,Tryz.ntmps43
 apply wp_seq
 apply wp_region
 simp [wpOps,go_sem,Exit.then]
 left
 apply wp_seq
 apply wp_region
 simp [wpOps,go_sem,Exit.then,hmf]
 left
 left
 apply wp_seq
 apply wp_region
 simp [wpOps,go_sem,Exit.then,hg _ _]
 left
 left
 refine h.mono ?_
 rintro e w' ⟨hc,h⟩
 have hrow:∀ cs:List Value,(w'.setRow w.heap.size cs.toArray).heap[w.heap.size]?=some (.cells cs.toArray 84 (0,0)):=fun cs=>setRow_heap w' w.heap.size _ cs.toArray 84 _ hc
 rcases h with ⟨v,rfl,hR⟩ | ⟨cs,hl,h1,rfl,hR⟩
 ·have k0:w'.cell? ⟨w.heap.size,0,none⟩=some (.int .i64 0):=by simp only [World.cell?,hc];rfl
  have k1:w'.cell? ⟨w.heap.size,1,none⟩=some (.int .i64 0):=by simp only [World.cell?,hc];rfl
  have z0:w'.frozen? ⟨w.heap.size,0,none⟩=false:=by simp [World.frozen?,hc]
  have z1:w'.frozen? ⟨w.heap.size,1,none⟩=false:=by simp [World.frozen?,hc]
  apply wp_seq
  apply wp_region
  simp [wpOps,go_sem,Exit.then,k0,k1,z0,z1]
  left
  left
  refine wp_ret ?_
  simp only [bodyPostD]
  refine leaves_cons (f:=90) (args:=#[.pointer (some ⟨w.heap.size,0,none⟩)]) (by simp) (by simp [go_sem]) ?_
  refine (axu _ _).mono ?_
  rintro e u' w'' ⟨rfl,rfl,rfl⟩
  simp [Leaves,settle,results,Tryz.results43,go_sem,k0,k1]
  exact hR _ ((ButOne.cell _ _ _ _).trans (ButOne.cell _ _ _ _))
 ·simp only [bodyPostD]
  refine leaves_cons (f:=90) (args:=#[.pointer (some ⟨w.heap.size,0,none⟩)]) (by simp) (by simp [go_sem]) ?_
  refine (amk _ cs [] _ _ hc rfl hl h1).mono ?_
  rintro e u' w'' ⟨rfl,rfl,rfl⟩
  match cs,hl,h1,hR,hrow with
  | [a,b],_,h1,hR,hrow=>
  have c0:(w'.setRow w.heap.size #[a,b]).cell? ⟨w.heap.size,0,none⟩=some a:=by simp only [World.cell?,hrow [a,b]];rfl
  have c1:(w'.setRow w.heap.size #[a,b]).cell? ⟨w.heap.size,1,none⟩=some b:=by simp only [World.cell?,hrow [a,b]];rfl
  simp [Leaves,settle,results,Tryz.results43,go_sem,c0,c1]
  exact hR _ (ButOne.row _ _ _)
section
variable {D:Dom}{ow:Own}{μ:Nat->Nat}{st:List BX}{w:World}
theorem ast {vals:Array Value}{ss:List SV} (o:Obj) (pre:Pre Tryz.prog D ow μ st w ss vals):Pre Tryz.prog D ow μ st (w.alloc o) ss vals:=by
 have hc:ow w.heap.size=none:=by
  cases h:ow w.heap.size with
  | none=>rfl
  | some k=>exact absurd (pre.objs.owlt _ _ h).1 (Nat.lt_irrefl _)
 have hd:∀ x,¬D w.heap.size x:=fun x d=>absurd (pre.objs.dlt _ _ d) (Nat.lt_irrefl _)
 have hh:∀ b,b≠w.heap.size->b<w.heap.size->(w.alloc o).heap[b]?=w.heap[b]?:=fun b _ hb=>aat w o _ hb
 refine ⟨pre.size,fun i s v hs hv=>(pre.arg i s v hs hv).mono (am0 hc hd pre.objs hh),av4 hc hd pre.objs (by show _<=(w.heap.push o).size;simp) hh,fun p hp g hg=>?_⟩
 obtain ⟨h1,cs,T,fr,h2,h3⟩:=pre.tabs p hp g hg
 exact ⟨h1,cs,T,fr,by rw [aat w o _ (Array.getElem?_eq_some_iff.1 h2).1];exact h2,h3⟩
theorem asp {o:Obj}{v v':Value}{rs rs':List SV}{st':List BX}{D':Dom}{w' w'':World} (pre:Objs Tryz.prog D ow μ st w) (hp:Post Tryz.prog D (w.alloc o) ow μ st rs st' v D' w') (hw:ButOne w.heap.size w' w'')
 (hr:∀ (ow':Own) (μ':Nat->Nat),Moves D' w' ow' μ' st' D' w'' ow' μ' st'->agq Tryz.prog D' w' ow' μ' st' rs v->agq Tryz.prog D' w'' ow' μ' st' rs' v'):
 Post Tryz.prog D w ow μ st rs' st' v' D' w'':=by
 have hc:ow w.heap.size=none:=by
  cases h:ow w.heap.size with
  | none=>rfl
  | some k=>exact absurd (pre.owlt _ _ h).1 (Nat.lt_irrefl _)
 have hs:(w.alloc o).heap.size=w.heap.size+1:=by show (w.heap.push o).size=_;simp
 have hd':∀ x,¬D' w.heap.size x:=by
  intro x d
  rcases hp.new _ _ d with d | d | d
  ·exact absurd (pre.dlt _ _ d) (Nat.lt_irrefl _)
  ·omega
  ·exact d hc
 obtain ⟨ow',μ',hR⟩:=hp.rest
 have hc':ow' w.heap.size=none:=by
  cases h:ow' w.heap.size with
  | none=>rfl
  | some k=>have:=hR.own _ _ h (by omega);rw [hc] at this;cases this
 have hh:∀ b,b≠w.heap.size->b<w'.heap.size->w''.heap[b]?=w'.heap[b]?:=fun b hb _=>hw.blk b hb
 have hm:=am0 hc' hd' hR.objs hh
 have hsz:=hp.size
 have hsz2:=hw.size
 have hold:∀ b,b<w.heap.size->w''.heap[b]?=w'.heap[b]?:=fun b hb=>hw.blk b (by omega)
 refine ⟨hp.dom,fun b x d=>?_,⟨ow',μ',av4 hc' hd' hR.objs (by omega) hh,hr ow' μ' hm hR.res,fun b k h1 h2=>hR.own b k h1 (by omega),hR.keep,fun k E g xs ys h1 h2=>?_⟩,hw.os.trans hp.os,hw.tape.trans hp.tape,hw.output.trans hp.output,by omega,fun b h1 h2=>?_,?_⟩
 ·rcases hp.new _ _ d with d | d | d
  ·exact Or.inl d
  ·exact Or.inr (Or.inl (by omega))
  ·exact Or.inr (Or.inr d)
 ·obtain ⟨q1,q2⟩:=hR.same k E g xs ys h1 h2
  refine ⟨q1,fun cur h3 h4=>?_⟩
  have hlt:=(pre.owlt _ _ h4).1
  obtain ⟨r1,r2,cur',r3,r4⟩:=q2 cur (by rw [aat w o _ hlt];exact h3) h4
  exact ⟨r1,r2,cur',by rw [hold _ hlt];exact r3,r4⟩
 ·rw [hold b h1,hp.old b (by omega) h2,aat w o _ h1]
 ·refine (Keeps.of_heap (w':=w.alloc o) fun b x d=>aat w o _ (pre.dlt b x d)).trans (hp.keeps.trans hm.keeps ?_) (fun _ _ d=>d)
  exact fun _ _ d=>hp.dom _ _ d
end
theorem akr {g:FuncId}{n:Nat}{caps:List SV}{st st':List BX} (hm:Meets Tryz.prog g caps st [] st'):Meets Tryz.prog 43 [.fn g n caps] st [.data 84 (.agg [.int 0,.int 0])] st':=by
 refine ⟨aay Tryz.func43 (by kernel_rfl) (by kernel_rfl),fun D ow μ w vals pre=>?_⟩
 obtain ⟨v,rfl,hv⟩:=a8t pre
 cases hv with
 | @fn _ _ _ us vs hn hsz hall=>
 have pre1:Pre Tryz.prog D ow μ st w caps (us++vs):=⟨hsz,hall,pre.objs,pre.tabs⟩
 refine amd g us vs w hm.1 ((hm.2 D ow μ _ _ (ast _ pre1)).mono ?_)
 rintro e w' ⟨v,D',rfl,hp⟩
 refine ⟨?_,Or.inl ⟨v,rfl,fun w'' hw=>⟨_,D',rfl,asp pre.objs hp hw fun ow' μ' hmv hr=>?_⟩⟩⟩
 ·have hc:ow w.heap.size=none:=by
   cases h:ow w.heap.size with
   | none=>rfl
   | some k=>exact absurd (pre.objs.owlt _ _ h).1 (Nat.lt_irrefl _)
  rw [hp.old _ (by show _<(w.heap.push _).size;simp) hc]
  exact aam _ _
 ·show SRep _ _ _ _ _ _ _ _
  have hz:aca Tryz.prog 84=true:=by kernel_rfl
  obtain ⟨i,z,h1,h2,h3,h4,h5,h6,h7⟩:=abo (Γ:=⟨Tryz.prog,0,w.heap.size,w,D,ow,0,μ,fun _=>[],fun _=>0,rfl,pre.tabs⟩) (D:=D') (ow:=ow') (μ:=μ') (st:=st') (w:=w'') hz
  have hzz:(Tryz.prog.info? 84).bind (·.zero)=some (.agg #[.int .i64 0,.int .i64 0]):=by kernel_rfl
  rw [h1] at hzz
  have hzz:i.zero=_:=hzz
  rw [h2] at hzz
  cases hzz
  have hrep:=abd h6 84 (by kernel_rfl)
  have e:toPV (abg Tryz.prog 12 84)=.agg [.int 0,.int 0]:=by kernel_rfl
  rw [e] at hrep
  exact .data (by kernel_rfl) hrep
theorem akn {g:FuncId}{n:Nat}{caps:List SV}{st st':List BX}{x:PV} (hm:Meets Tryz.prog g caps st [.pan (.ifc 84 (.data 84 x))] st'):Meets Tryz.prog 43 [.fn g n caps] st [.data 84 x] st':=by
 refine ⟨aay Tryz.func43 (by kernel_rfl) (by kernel_rfl),fun D ow μ w vals pre=>?_⟩
 obtain ⟨v,rfl,hv⟩:=a8t pre
 cases hv with
 | @fn _ _ _ us vs hn hsz hall=>
 have pre1:Pre Tryz.prog D ow μ st w caps (us++vs):=⟨hsz,hall,pre.objs,pre.tabs⟩
 refine amd g us vs w hm.1 ((hm.2 D ow μ _ _ (ast _ pre1)).mono ?_)
 rintro e w' ⟨v,D',rfl,hp⟩
 have hlen:Tryz.prog.cellsOf 84=2:=by kernel_rfl
 have hag:(Tryz.prog.underlying 84).elim false (fun d=>match d with | .struct _=>true | _=>false)=true:=by kernel_rfl
 obtain ⟨ow0,μ0,hR0⟩:=hp.rest
 have hr0:SRep Tryz.prog D' w' ow0 μ0 st' (.ifc 84 (.data 84 x)) v:=hR0.res
 cases hr0 with
 | @ifc _ _ u hu=>
 cases hu with
 | @data _ _ cs ha hrep=>
 have hcs:cs.length=2:=by
  cases hrep with
  | agg _ hl=>rw [hl,hlen]
  | arr _ hl=>rw [hl,hlen]
  | raw h=>exact absurd (h.symm.trans (by kernel_rfl:rawT Tryz.prog 84=false)) (by simp)
  | bool h=>rw [h] at hag;cases hag
  | int h=>rw [h] at hag;cases hag
  | str h=>rw [h] at hag;cases hag
  | nil h=>rw [h] at hag;cases hag
  | slice h=>rw [h] at hag;cases hag
  | mapnil h=>rw [h] at hag;cases hag
  | map _ _ h=>rw [h] at hag;cases hag
 refine ⟨?_,Or.inr ⟨cs,hcs,hrep.oneCell,rfl,fun w'' hw=>⟨_,D',rfl,asp pre.objs hp hw fun ow' μ' hmv hr=>?_⟩⟩⟩
 ·have hc:ow w.heap.size=none:=by
   cases h:ow w.heap.size with
   | none=>rfl
   | some k=>exact absurd (pre.objs.owlt _ _ h).1 (Nat.lt_irrefl _)
  rw [hp.old _ (by show _<(w.heap.push _).size;simp) hc]
  exact aam _ _
 ·have hr:SRep Tryz.prog D' w' ow' μ' st' (.ifc 84 (.data 84 x)) (.iface 84 (.agg cs.toArray)):=hr
  cases hr with
  | ifc hu=>exact hu.mono hmv
end Go.Ab
