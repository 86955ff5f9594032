/- A function that runs its argument and hands back what it panics with. -/
import Derived.Test.YtcpkdafleaddlaaGreatDoorAbPrsP
import Derived.Tactics
import Derived.Tactics2
import Derived.Defers
import Derived.Recover
set_option linter.unusedVariables false
set_option linter.unusedSimpArgs false
set_option linter.unnecessarySimpa false
namespace Go.Ab
open Go Go.Proofs
section
variable {P:Program}{D:Dom}{ow:Own}{μ:Nat->Nat}{st:List BX}{w w':World}
theorem aoh {c:Nat} (W:ow c=none) (X:∀ o,¬D c o) (M:Objs P D ow μ st w) (H:∀ b,b≠c->b<w.heap.size->w'.heap[b]?=w.heap[b]?):Moves D w ow μ st D w' ow μ st:=by have Y:∀ b o,D b o->w'.heap[b]?=w.heap[b]?:=λb o d=>H b (λe=>X o (e▸d)) (M.dlt b o d);have O:∀ b k,ow b=some k->w'.heap[b]?=w.heap[b]?:=λb k o=>H b (λe=>by rw [e,W] at o;cases o) (M.owlt b k o).1;refine ⟨λ_ _ d=>d,Keeps.of_heap Y,λk T v e=>⟨rfl,v,e⟩,λk K E es e=>⟨rfl,es,e⟩,λk b e _=>⟨rfl,b,e,rfl⟩,λk E g xs e=>⟨g,xs,e,Nat.le_refl _,λ_=>⟨rfl,λm V z=>⟨rfl,z,m,?_,rfl⟩⟩⟩,λk g e=>⟨g,e,Nat.le_refl _,λ_ b U=>⟨O b k U,U,λo d=>d⟩⟩⟩;rw [O _ _ z];exact V
theorem azb {c:Nat} (hc:ow c=none) (hd:∀ o,¬D c o) (Y:Objs P D ow μ st w) (hs:w.heap.size<=w'.heap.size) (hh:∀ b,b≠c->b<w.heap.size->w'.heap[b]?=w.heap[b]?):Objs P D ow μ st w':=by
 have m:=aoh hc hd Y hh;have Z:∀ b k,ow b=some k->w'.heap[b]?=w.heap[b]?:=λb k o=>hh b (λe=>by rw [e,hc] at o;cases o) (Y.owlt b k o).1;refine ⟨λk b e=>?_,λb k o=>⟨Aw (Y.owlt b k o).1 hs,(Y.owlt b k o).2⟩,λb o d=>Aw (Y.dlt b o d) hs,Y.lone⟩;have W:=Y.obj k b e;cases b with
 | box T s=>obtain ⟨U,T',M,z,H,X,O⟩:=W;exact ⟨U,T',by rw [Z _ _ H];exact M,z,H,X,O.mono m⟩
 | map K E es=>obtain ⟨ents,clock,kc,vc,M,z,H,X,O,h6,h7⟩:=W;exact ⟨ents,clock,kc,vc,by rw [Z _ _ z];exact M,z,H,X,λi x a=>(O i x a).mono m.dom m.keeps,λi x a=>(h6 i x a).mono m.dom m.keeps,h7⟩
 | acc g=>trivial
 | iter s p=>obtain ⟨M,z,H⟩:=W;exact ⟨by rw [Z _ _ z];exact M,z,H⟩
 | bld T bs=>
  obtain ⟨p,v,M,z,H,X,O⟩:=W;refine ⟨p,v,by rw [Z _ _ H];exact M,z,H,X,?_⟩;rcases O with O | ⟨g,cap,V,fz,q1,q2,q3,q4,q5,q6,q7,q8,q9,aa⟩
  ·exact Or.inl O
  ·exact Or.inr ⟨g,cap,V,fz,q1,by rw [Z _ _ q9];exact q2,q3,q4,q5,q6,q7,q8,q9,aa⟩
 | arr E g xs=>
  rcases W with W | ⟨V,M,z,H,X,O⟩
  ·exact Or.inl W
  ·exact Or.inr ⟨V,by rw [Z _ _ z];exact M,z,H,X,λi x a=>(O i x a).mono m.dom m.keeps⟩
 | hole=>trivial
end
theorem a6g (b:Nat) (cs:List Value) (w:World) (d:Array Value) (H:w.heap[b]?=some (.cells d 84 (0,0))) (o:d.size=2) (M:cs.length=2) (z:∀ c,c∈cs->c.oneCell'=true):
 (storeCells ⟨b,0,none⟩ cs).run Tryz.prog w=.ok () (w.setRow b cs.toArray):=by
 have m:=run_storeCells_at Tryz.prog b 0 84 cs 0 d w H (by omega) z
 have e:(List.take (0+0) d.toList++cs++List.drop (0+0+cs.length) d.toList)=cs:=by rw [Aq (by simp;omega)];simp
 rw [e] at m
 exact m
theorem bel (v:Value) (w:World) (d:∃ u,v=.iface 84 u):(binOp BinOp.neq 20 v .nilIface).run Tryz.prog w=.ok (.bool true) w:=by obtain ⟨u,rfl⟩:=d;kernel_rfl
theorem bct (w:World):(binOp BinOp.neq 20 .nilIface .nilIface).run Tryz.prog w=.ok (.bool false) w:=by kernel_rfl
theorem bb3 (u:Value) (w:World):(Instr.typeAssert (.iface 84 u) 20 84 false).run Tryz.prog w=.ok u w:=by kernel_rfl
theorem ano (b:Nat) (cs:List Value) (d:List PanicEntry) (w:World) (m:Array Value) (U:w.heap[b]?=some (.cells m 84 (0,0))) (z:m.size=2) (o:cs.length=2) (O:∀ c,c∈cs->c.oneCell'=true):
 CallsD Tryz.prog 90 #[.pointer (some ⟨b,0,none⟩)] (.panicking ({ v:=.iface 84 (.agg cs.toArray),recovered:=false }::d)) w λe X w'=>
  e=.returned (.tuple #[])/\X=.panicking ({ v:=.iface 84 (.agg cs.toArray),recovered:=true }::d)/\w'=w.setRow b cs.toArray:=by
 refine callsD_of_wpS Tryz.func90 rfl λH M V=>?_
 have W:=a6g b cs w m U z o O
 apply wpS_seq
 apply wpS_region
 simp [wpOpsS,go_sem,recoverD,V,Tryz.ntmps90,Exit.thenS]
 apply wpS_seq
 apply wpS_region
 simp [wpOpsS,go_sem,bel,Exit.thenS]
 refine wpS_cond (t:=true) (by simp [Act.eval,Array.replicate]) ?_
 simp only [A6]
 apply wpS_region
 simp [wpOpsS,go_sem,bb3,o,W,bodyPostS,results,Tryz.results90]
theorem a0f (p:Addr) (w:World):
 CallsD Tryz.prog 90 #[.pointer (some p)] .returning w λe o w'=>e=.returned (.tuple #[])/\o=.returning/\w'=w:=by
 refine callsD_of_wpS Tryz.func90 rfl λd cs m=>?_
 apply wpS_seq
 apply wpS_region
 simp [wpOpsS,go_sem,recoverD,m,Tryz.ntmps90,Exit.thenS]
 apply wpS_seq
 apply wpS_region
 simp [wpOpsS,go_sem,bct,Exit.thenS]
 refine wpS_cond (t:=false) (by simp [Act.eval,Array.replicate]) ?_
 simp only [A2,A7]
 refine wpS_of_wp (wp_skip ?_)
 cases d
 simp_all [bodyPostS,results,Tryz.results90]
structure ButOne (c:Nat) (w w':World):Prop where
 os:w'.os=w.os
 tape:w'.tape=w.tape
 output:w'.output=w.output
 size:w'.heap.size=w.heap.size
 blk:∀ b,b≠c->w'.heap[b]?=w.heap[b]?
theorem ButOne.cell (c o:Nat) (w:World) (v:Value):ButOne c w (w.setCell ⟨c,o,none⟩ v):=⟨rfl,rfl,rfl,by simp [World.setCell],λb d=>RowKit.Below.heap_setCell w _ v b d⟩
theorem ButOne.row (c:Nat) (w:World) (cs:Array Value):ButOne c w (w.setRow c cs):=⟨rfl,rfl,rfl,by simp [World.setRow],λb d=>setRow_other w c b cs d⟩
theorem ButOne.trans {c:Nat}{w w' d:World} (h:ButOne c w w') (k:ButOne c w' d):ButOne c w d:=
 ⟨k.os.trans h.os,k.tape.trans h.tape,k.output.trans h.output,k.size.trans h.size,λb m=>(k.blk b m).trans (h.blk b m)⟩
theorem anp {R:Ending->World->Prop} (g:FuncId) (W X:Array Value) (w:World) (hg:aj1 Tryz.prog g)
 (h:Calls Tryz.prog g (W++X) (w.alloc (.cells #[.int .i64 0,.int .i64 0] 84)) λe w'=>w'.heap[w.heap.size]?=some (.cells #[.int .i64 0,.int .i64 0] 84 (0,0))/\
  ((∃ v,e=.returned v/\∀ d,ButOne w.heap.size w' d->R (.returned (.agg #[.int .i64 0,.int .i64 0])) d)\/
   ∃ cs:List Value,cs.length=2/\(∀ c,c∈cs->c.oneCell'=true)/\e=.panicked [{ v:=.iface 84 (.agg cs.toArray),recovered:=false }]/\∀ d,ButOne w.heap.size w' d->R (.returned (.agg cs.toArray)) d)):
 Calls Tryz.prog 43 #[.func (.func g) W X] w R:=by
 have M:∀ (fn:Fn) (first cap:Array Value) (w:World),(Instr.makeFunc fn first cap).run Tryz.prog w=.ok (.func fn first cap) w:=λ_ _ _ _=>rfl
 go_enter_defers Tryz.func43,Tryz.ntmps43
 apply wp_seq
 apply wp_region
 simp [wpOps,go_sem,Exit.then]
 left
 apply wp_seq
 apply wp_region
 simp [wpOps,go_sem,Exit.then,M]
 left
 left
 apply wp_seq
 apply wp_region
 simp [wpOps,go_sem,Exit.then,hg _ _]
 left
 left
 refine h.mono ?_
 rintro e w' ⟨o,h⟩
 have m:∀ cs:List Value,(w'.setRow w.heap.size cs.toArray).heap[w.heap.size]?=some (.cells cs.toArray 84 (0,0)):=λcs=>setRow_heap w' w.heap.size _ cs.toArray 84 _ o
 rcases h with ⟨v,rfl,z⟩ | ⟨cs,O,H,rfl,z⟩
 ·have U:w'.cell? ⟨w.heap.size,0,none⟩=some (.int .i64 0):=by simp only [World.cell?,o];rfl
  have V:w'.cell? ⟨w.heap.size,1,none⟩=some (.int .i64 0):=by simp only [World.cell?,o];rfl
  have z0:w'.frozen? ⟨w.heap.size,0,none⟩=false:=by simp [World.frozen?,o]
  have z1:w'.frozen? ⟨w.heap.size,1,none⟩=false:=by simp [World.frozen?,o]
  apply wp_seq;apply wp_region;simp [wpOps,go_sem,Exit.then,U,V,z0,z1];left;left;refine wp_ret ?_;simp only [bodyPostD];refine leaves_cons (f:=90) (args:=#[.pointer (some ⟨w.heap.size,0,none⟩)]) (by simp) (by simp [go_sem]) ?_;refine (a0f _ _).mono ?_;rintro e u' d ⟨rfl,rfl,rfl⟩;simp [Leaves,settle,results,Tryz.results43,go_sem,U,V];exact z _ ((ButOne.cell _ _ _ _).trans (ButOne.cell _ _ _ _))
 ·simp only [bodyPostD];refine leaves_cons (f:=90) (args:=#[.pointer (some ⟨w.heap.size,0,none⟩)]) (by simp) (by simp [go_sem]) ?_;refine (ano _ cs [] _ _ o rfl O H).mono ?_;rintro e u' d ⟨rfl,rfl,rfl⟩;match cs,O,H,z,m with
  | [a,b],_,H,z,m=>
  have Y:(w'.setRow w.heap.size #[a,b]).cell? ⟨w.heap.size,0,none⟩=some a:=by simp only [World.cell?,m [a,b]];rfl
  have Z:(w'.setRow w.heap.size #[a,b]).cell? ⟨w.heap.size,1,none⟩=some b:=by simp only [World.cell?,m [a,b]];rfl
  simp [Leaves,settle,results,Tryz.results43,go_sem,Y,Z];exact z _ (ButOne.row _ _ _)
section
variable {D:Dom}{ow:Own}{μ:Nat->Nat}{st:List BX}{w:World}
theorem au3 {z:Array Value}{ss:List SV} (o:Obj) (m:Pre Tryz.prog D ow μ st w ss z):Pre Tryz.prog D ow μ st (w.alloc o) ss z:=by
 have M:ow w.heap.size=none:=by
  cases h:ow w.heap.size with
  | none=>rfl
  | some k=>exact absurd (m.objs.owlt _ _ h).1 (Nat.lt_irrefl _)
 have O:∀ x,¬D w.heap.size x:=λx d=>absurd (m.objs.dlt _ _ d) (Nat.lt_irrefl _);have U:∀ b,b≠w.heap.size->b<w.heap.size->(w.alloc o).heap[b]?=w.heap[b]?:=λb _ Y=>aa0 w o _ Y;refine ⟨m.size,λi s v hs hv=>(m.arg i s v hs hv).mono (aoh M O m.objs U),azb M O m.objs (by show _<=(w.heap.push o).size;simp) U,λp hp g Z=>?_⟩;obtain ⟨W,cs,T,V,H,X⟩:=m.tabs p hp g Z;exact ⟨W,cs,T,V,by rw [aa0 w o _ (Array.getElem?_eq_some_iff.1 H).1];exact H,X⟩
theorem au2 {o:Obj}{v v':Value}{rs ad:List SV}{st':List BX}{D':Dom}{w' H:World} (O:Objs Tryz.prog D ow μ st w) (M:Post Tryz.prog D (w.alloc o) ow μ st rs st' v D' w') (X:ButOne w.heap.size w' H)
 (hr:∀ (m:Own) (z:Nat->Nat),Moves D' w' m z st' D' H m z st'->ahc Tryz.prog D' w' m z st' rs v->ahc Tryz.prog D' H m z st' ad v'):
 Post Tryz.prog D w ow μ st ad st' v' D' H:=by
 have hc:ow w.heap.size=none:=by
  cases h:ow w.heap.size with
  | none=>rfl
  | some k=>exact absurd (O.owlt _ _ h).1 (Nat.lt_irrefl _)
 have hs:(w.alloc o).heap.size=w.heap.size+1:=by show (w.heap.push o).size=_;simp
 have aa:∀ x,¬D' w.heap.size x:=by
  intro x d;rcases M.new _ _ d with d | d | d
  ·exact absurd (O.dlt _ _ d) (Nat.lt_irrefl _)
  ·omega
  ·exact d hc
 obtain ⟨m,z,V⟩:=M.rest
 have Z:m w.heap.size=none:=by
  cases h:m w.heap.size with
  | none=>rfl
  | some k=>have:=V.own _ _ h (by omega);rw [hc] at this;cases this
 have hh:∀ b,b≠w.heap.size->b<w'.heap.size->H.heap[b]?=w'.heap[b]?:=λb hb _=>X.blk b hb
 have hm:=aoh Z aa V.objs hh
 have ag:=M.size
 have af:=X.size
 have U:∀ b,b<w.heap.size->H.heap[b]?=w'.heap[b]?:=λb hb=>X.blk b (by omega)
 refine ⟨M.dom,λb x d=>?_,⟨m,z,azb Z aa V.objs (by omega) hh,hr m z hm V.res,λb k W h2=>V.own b k W (by omega),V.keep,λk E g xs ys W h2=>?_⟩,X.os.trans M.os,X.tape.trans M.tape,X.output.trans M.output,by omega,λb W h2=>?_,?_⟩
 ·rcases M.new _ _ d with d | d | d
  ·exact Or.inl d
  ·exact Or.inr (Or.inl (by omega))
  ·exact Or.inr (Or.inr d)
 ·obtain ⟨q1,q2⟩:=V.same k E g xs ys W h2;refine ⟨q1,λae h3 h4=>?_⟩;have ab:=(O.owlt _ _ h4).1;obtain ⟨r1,r2,Y,r3,r4⟩:=q2 ae (by rw [aa0 w o _ ab];exact h3) h4;exact ⟨r1,r2,Y,by rw [U _ ab];exact r3,r4⟩
 ·rw [U b W,M.old b (by omega) h2,aa0 w o _ W]
 ·refine (Keeps.of_heap (w':=w.alloc o) λb x d=>aa0 w o _ (O.dlt b x d)).trans (M.keeps.trans hm.keeps ?_) (λ_ _ d=>d);exact λ_ _ d=>M.dom _ _ d
end
theorem ap6 {g:FuncId}{n:Nat}{caps:List SV}{st st':List BX} (X:Meets Tryz.prog g caps st [] st'):Meets Tryz.prog 43 [.fn g n caps] st [.data 84 (.agg [.int 0,.int 0])] st':=by
 refine ⟨aa5 Tryz.func43 (by kernel_rfl) (by kernel_rfl),λD ow μ w aa d=>?_⟩;obtain ⟨v,rfl,hv⟩:=bdi d;cases hv with
 | @fn _ _ _ Z vs hn O H=>
 have M:Pre Tryz.prog D ow μ st w caps (Z++vs):=⟨O,H,d.objs,d.tabs⟩;refine anp g Z vs w X.1 ((X.2 D ow μ _ _ (au3 _ M)).mono ?_);rintro e w' ⟨v,D',rfl,Y⟩;refine ⟨?_,Or.inl ⟨v,rfl,λV hw=>⟨_,D',rfl,au2 d.objs Y hw λU W ab hr=>?_⟩⟩⟩
 ·have hc:ow w.heap.size=none:=by
   cases h:ow w.heap.size with
   | none=>rfl
   | some k=>exact absurd (d.objs.owlt _ _ h).1 (Nat.lt_irrefl _)
  rw [Y.old _ (by show _<(w.heap.push _).size;simp) hc];exact aax _ _
 ·show SRep _ _ _ _ _ _ _ _;have hz:adc Tryz.prog 84=true:=by kernel_rfl
  obtain ⟨i,z,h1,h2,h3,h4,h5,h6,h7⟩:=aby (Γ:=⟨Tryz.prog,0,w.heap.size,w,D,ow,0,μ,λ_=>[],λ_=>0,rfl,d.tabs⟩) (D:=D') (ow:=U) (μ:=W) (st:=st') (w:=V) hz;have m:(Tryz.prog.info? 84).bind (·.zero)=some (.agg #[.int .i64 0,.int .i64 0]):=by kernel_rfl
  rw [h1] at m;have m:i.zero=_:=m;rw [h2] at m;cases m;have o:=abk h6 84 (by kernel_rfl);have e:toPV (abp Tryz.prog 12 84)=.agg [.int 0,.int 0]:=by kernel_rfl
  rw [e] at o;exact .data (by kernel_rfl) o
theorem ap5 {g:FuncId}{n:Nat}{caps:List SV}{st st':List BX}{x:PV} (hm:Meets Tryz.prog g caps st [.pan (.ifc 84 (.data 84 x))] st'):Meets Tryz.prog 43 [.fn g n caps] st [.data 84 x] st':=by
 refine ⟨aa5 Tryz.func43 (by kernel_rfl) (by kernel_rfl),λD ow μ w af o=>?_⟩;obtain ⟨v,rfl,hv⟩:=bdi o;cases hv with
 | @fn _ _ _ us vs hn ab M=>
 have O:Pre Tryz.prog D ow μ st w caps (us++vs):=⟨ab,M,o.objs,o.tabs⟩;refine anp g us vs w hm.1 ((hm.2 D ow μ _ _ (au3 _ O)).mono ?_);rintro e w' ⟨v,D',rfl,Y⟩;have z:Tryz.prog.cellsOf 84=2:=by kernel_rfl
 have m:(Tryz.prog.underlying 84).elim false (λd=>match d with | .struct _=>true | _=>false)=true:=by kernel_rfl
 obtain ⟨ow0,μ0,U⟩:=Y.rest;have aa:SRep Tryz.prog D' w' ow0 μ0 st' (.ifc 84 (.data 84 x)) v:=U.res;cases aa with
 | @ifc _ _ u hu=>
 cases hu with
 | @data _ _ cs ha H=>
 have V:cs.length=2:=by
  cases H with
  | agg _ W=>rw [W,z]
  | arr _ W=>rw [W,z]
  | raw h=>exact absurd (h.symm.trans (by kernel_rfl:rawT Tryz.prog 84=false)) (by simp)
  | bool h=>rw [h] at m;cases m
  | int h=>rw [h] at m;cases m
  | str h=>rw [h] at m;cases m
  | nil h=>rw [h] at m;cases m
  | slice h=>rw [h] at m;cases m
  | mapnil h=>rw [h] at m;cases m
  | map _ _ h=>rw [h] at m;cases m
 refine ⟨?_,Or.inr ⟨cs,V,H.oneCell,rfl,λag hw=>⟨_,D',rfl,au2 o.objs Y hw λad ae X Z=>?_⟩⟩⟩
 ·have hc:ow w.heap.size=none:=by
   cases h:ow w.heap.size with
   | none=>rfl
   | some k=>exact absurd (o.objs.owlt _ _ h).1 (Nat.lt_irrefl _)
  rw [Y.old _ (by show _<(w.heap.push _).size;simp) hc];exact aax _ _
 ·have Z:SRep Tryz.prog D' w' ad ae st' (.ifc 84 (.data 84 x)) (.iface 84 (.agg cs.toArray)):=Z;cases Z with
  | ifc hu=>exact hu.mono X
end Go.Ab
