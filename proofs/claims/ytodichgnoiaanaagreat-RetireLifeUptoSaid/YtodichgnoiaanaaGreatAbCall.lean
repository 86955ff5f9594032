/- Calls by contract. -/
import Derived.Test.YtodichgnoiaanaaGreatAbStep
set_option linter.unusedVariables false
set_option linter.unusedSimpArgs false
set_option linter.unnecessarySimpa false
namespace Go.Ab
open Go
def a6k (P:Program) (D:Dom) (w:World) (s:SV) (v:Value):Prop:=∀ (ow:Own) (μ:Nat->Nat) (st:List BX),SRep P D w ow μ st s v
def ObjIn (P:Program) (D:Dom) (w:World) (ow:Own) (μ:Nat->Nat) (st:List BX) (k:Nat):BX->Prop
 | .box T s=>BoxRep P D w ow μ st k T s
 | .map K E es=>OMapRep P D w ow μ k K E es
 | .acc _=>True
 | .iter s p=>ObjRep P D w ow μ k (.iter s p)
 | .bld T bs=>ObjRep P D w ow μ k (.bld T bs)
 | .arr E g xs=>ObjRep P D w ow μ k (.arr E g xs)
 | .mit K E c es=>ObjRep P D w ow μ k (.mit K E c es)
 | .hole=>True
structure Objs (P:Program) (D:Dom) (ow:Own) (μ:Nat->Nat) (st:List BX) (w:World):Prop where
 obj:∀ (k:Nat) (b:BX),st[k]?=some b->ObjIn P D w ow μ st k b
 owlt:∀ b k,ow b=some k->b<w.heap.size/\k<st.length
 dlt:∀ b o,D b o->b<w.heap.size
 lone:∀ (b k:Nat) (x:BX),ow b=some k->st[k]?=some x->(∀ g,x≠.acc g)->∀ o,¬D b o
structure Pre (P:Program) (D:Dom) (ow:Own) (μ:Nat->Nat) (st:List BX) (w:World) (as:List SV) (vals:Array Value):Prop where
 size:vals.size=as.length
 arg:∀ (i:Nat) (s:SV) (v:Value),as[i]?=some s->vals[i]?=some v->SRep P D w ow μ st s v
 objs:Objs P D ow μ st w
 tabs:Tabs P ow w
theorem Pre.dlt {P:Program}{D:Dom}{ow:Own}{μ:Nat->Nat}{st:List BX}{w:World}{as:List SV}{vals:Array Value} (pre:Pre P D ow μ st w as vals):∀ b o,D b o->b<w.heap.size:=pre.objs.dlt
def agj (rs:List SV) (v:Value):Ending:=
 match rs with
 | [.pan _]=>.panicked [{ v,recovered:=false }]
 | _=>.returned v
def ahq (P:Program) (D:Dom) (w:World) (ow:Own) (μ:Nat->Nat) (st:List BX) (rs:List SV) (v:Value):Prop:=
 match rs with
 | [.pan s]=>SRep P D w ow μ st s v
 | rs=>SRep P D w ow μ st (adf rs) v
theorem ajk {P:Program}{D:Dom}{w:World}{ow:Own}{μ:Nat->Nat}{st:List BX}{rs:List SV}{v:Value} (h:SRep P D w ow μ st (adf rs) v):ahq P D w ow μ st rs v/\agj rs v=.returned v:=by
 unfold ahq agj
 split
 ·cases h
 ·exact ⟨h,rfl⟩
theorem abw {P:Program}{D:Dom}{w:World}{ow:Own}{μ:Nat->Nat}{st:List BX}{rs:List SV}{v:Value} (h:ahq P D w ow μ st rs v):
 (∃ s,rs=[.pan s]/\SRep P D w ow μ st s v/\agj rs v=.panicked [{ v,recovered:=false }])∨((∀ s,rs≠[.pan s])/\SRep P D w ow μ st (adf rs) v/\agj rs v=.returned v):=by
 unfold ahq at h
 split at h
 ·rename_i s;exact Or.inl ⟨s,rfl,h,rfl⟩
 ·rename_i hne
  refine Or.inr ⟨fun s e=>hne s e,h,?_⟩
  unfold agj
  split
  ·rename_i s;exact absurd rfl (hne s)
  ·rfl
structure Rest (P:Program) (D:Dom) (w:World) (ow:Own) (μ:Nat->Nat) (st:List BX) (rs:List SV) (st':List BX) (v:Value) (D':Dom) (w':World) (ow':Own) (μ':Nat->Nat):Prop where
 objs:Objs P D' ow' μ' st' w'
 res:ahq P D' w' ow' μ' st' rs v
 own:∀ b k,ow' b=some k->b<w.heap.size->ow b=some k
 keep:∀ (k:Nat) (b:BX),st[k]?=some b->∃ b',st'[k]?=some b'/\b'.kind=b.kind/\((∀ g,b≠.acc g)->(∀ E g xs,b≠.arr E g xs)->μ' k=μ k)
 same:∀ (k:Nat) (E:TypeId) (g:Nat) (xs ys:List PV),st[k]?=some (.arr E g xs)->st'[k]?=some (.arr E 0 ys)->ys.length=xs.length/\ArrKeep w ow μ w' ow' μ' k E
structure Post (P:Program) (D:Dom) (w:World) (ow:Own) (μ:Nat->Nat) (st:List BX) (rs:List SV) (st':List BX) (v:Value) (D':Dom) (w':World):Prop where
 dom:∀ b o,D b o->D' b o
 new:∀ b o,D' b o->D b o∨w.heap.size<=b∨ow b≠none
 rest:∃ (ow':Own) (μ':Nat->Nat),Rest P D w ow μ st rs st' v D' w' ow' μ'
 os:w'.os=w.os
 tape:w'.tape=w.tape
 output:w'.output=w.output
 size:w.heap.size<=w'.heap.size
 old:∀ b,b<w.heap.size->ow b=none->w'.heap[b]?=w.heap[b]?
 keeps:Keeps D w w'
def auz (P:Program) (f:FuncId):Prop:=∀ (args:Array Value) (w:World),(callFunc f args).run P w=.ok (.enter f args) w
def Meets (P:Program) (f:FuncId) (as:List SV) (st:List BX) (rs:List SV) (st':List BX):Prop:=
 auz P f/\∀ (D:Dom) (ow:Own) (μ:Nat->Nat) (w:World) (vals:Array Value),Pre P D ow μ st w as vals->
  Calls P f vals w fun e w'=>∃ v D',e=agj rs v/\Post P D w ow μ st rs st' v D' w'
theorem alp {P:Program}{f:FuncId}{fn:Func} (hf:P.funcs[f]?=some fn) (hn:(fn.name== "runtime.NumGoroutine")=false) (hb:fn.body.isNone=false):auz P f:=by
 intro args w
 have hn':fn.name≠ "runtime.NumGoroutine":=by simpa using hn
 have hb':fn.body≠none:=fun e=>by rw [e] at hb;cases hb
 simp [callFunc,hf,hn',hb']
theorem ak8 {b:BX}{T:TypeId}{s:SV} (h:b.kind=(BX.box T s).kind):∃ s',b=.box T s':=by
 cases b<;>simp [BX.kind] at h
 subst h;exact ⟨_,rfl⟩
theorem avq {b:BX}{T:TypeId}{s:List UInt8} (h:b.kind=(BX.bld T s).kind):∃ s',b=.bld T s':=by
 cases b<;>simp [BX.kind] at h
 subst h;exact ⟨_,rfl⟩
theorem avr {b:BX}{K E:TypeId}{s:List (PV×PV)} (h:b.kind=(BX.map K E s).kind):∃ s',b=.map K E s':=by
 cases b<;>simp [BX.kind] at h
 obtain ⟨rfl,rfl⟩:=h;exact ⟨_,rfl⟩
theorem azw {b:BX}{s:List UInt8}{p:Nat} (h:b.kind=(BX.iter s p).kind):∃ s' p',b=.iter s' p':=by
 cases b<;>simp [BX.kind] at h
 exact ⟨_,_,rfl⟩
theorem a3a {b:BX}{g:Nat} (h:b.kind=(BX.acc g).kind):∃ g',b=.acc g':=by
 cases b<;>simp [BX.kind] at h
 exact ⟨_,rfl⟩
theorem arf {b b':BX} (h:b'.kind=b.kind) (hb:∀ E g xs,b≠.arr E g xs):∀ E g xs,b'≠.arr E g xs:=by
 intro E g xs e
 subst e
 obtain ⟨g',ys,rfl⟩:=ahc h.symm
 exact hb _ _ _ rfl
theorem afb {b b':BX} (h:b'.kind=b.kind) (hb:∀ g,b≠.acc g):∀ g,b'≠.acc g:=by
 intro g e
 subst e
 cases b<;>simp [BX.kind] at h
 exact hb _ rfl
section
variable {Γ:Ctx}{D:Dom}{ow:Own}{μ:Nat->Nat}{st:List BX}{w:World}
theorem ab7 {P:Program}{T:Option TypeId}{s s':SV}{v:Value} (h:SRep P D w ow μ st s v) (hc:ain P T s=some s'):a6k P D w s' v:=by
 intro ow' μ' st'
 unfold ain at hc
 split at hc
 ·simp only [Option.some.injEq] at hc;subst hc;cases h;exact .bool
 ·simp only [Option.some.injEq] at hc;subst hc;cases h;exact .int
 ·simp only [Option.some.injEq] at hc;subst hc;cases h;exact .str
 ·simp only [Option.some.injEq] at hc;subst hc
  cases h with | slice h=>exact .slice h
 ·simp only [Option.some.injEq] at hc;subst hc
  cases h with | data h1 h2=>exact .data h1 h2
 ·simp only [Option.some.injEq] at hc;subst hc
  cases h with | map h=>exact .map h
 ·simp only [Option.some.injEq] at hc;subst hc;cases h;exact .raw
 ·simp only [Option.some.injEq] at hc;subst hc
  cases h with | pto h1 h2=>exact .pto h1 h2
 ·simp only [Option.some.injEq] at hc;subst hc
  cases h with | eif h1 h2=>exact .eif h1 h2
 ·simp only [Option.some.injEq] at hc;subst hc
  cases h with | acc h=>exact .slice h
 ·simp only [Option.some.injEq] at hc;subst hc
  cases h with | lit h=>exact .slice h
 ·simp only [Option.some.injEq] at hc;subst hc
  cases h with | sln h=>exact .slice h
 ·split at hc
  ·split at hc
   ·simp only [Option.some.injEq] at hc;subst hc;cases h;exact .slice (.nil fun _=>rfl)
   ·simp at hc
  ·simp at hc
 ·rename_i T' fs
  cases ho:isOf P T' (.agg T' fs) with
  | false=>rw [ho] at hc;simp at hc
  | true=>
   rw [ho] at hc
   simp only [cond_true,Option.some.injEq] at hc;subst hc
   have hr:=aba h T' ho
   cases h with
   | agg hT=>exact .data (by simp [aaj,hT]) (by simpa [Value.cells] using hr)
 ·simp at hc
structure Emb (ρ:Nat->Option Nat) (γ:Nat->Nat) (ow1:Own) (μ1:Nat->Nat) (st1:List BX) (ow2:Own) (μ2:Nat->Nat) (st2:List BX):Prop where
 obj:∀ (j k:Nat) (b:BX),ρ j=some k->st1[j]?=some b->∃ b',st2[k]?=some b'/\b'.kind=b.kind/\((∀ g,b≠.acc g)->μ2 k=μ1 j)/\((∃ g,b=.acc g)->b'=.acc (γ j))/\(∀ E g xs,b=.arr E g xs->b'=.arr E (γ j) xs)
 own:∀ (j k b:Nat),ρ j=some k->ow1 b=some j->ow2 b=some k
theorem agx {st:List BX}{ρ:Nat->Option Nat}{γ:Nat->Nat}:∀ {l l':List SV},renL st ρ γ l=some l'->l'.length=l.length/\∀ (i:Nat) (x:SV),l'[i]?=some x->∃ y,l[i]?=some y/\renS st ρ γ y=some x:=by
 intro l
 induction l with
 | nil=>intro l' h;simp only [renL,Option.some.injEq] at h;subst h;exact ⟨rfl,fun i x hx=>by simp at hx⟩
 | cons s r ih=>
  intro l' h
  simp only [renL] at h
  split at h
  ·rename_i x q hx hq
   simp only [Option.some.injEq] at h;subst h
   obtain ⟨h1,h2⟩:=ih hq
   refine ⟨by simp [h1],fun i y hy=>?_⟩
   cases i with
   | zero=>simp at hy;subst hy;exact ⟨s,by simp,hx⟩
   | succ i=>simpa using h2 i y (by simpa using hy)
  ·cases h
theorem ad7 {P:Program}{ρ:Nat->Option Nat}{γ:Nat->Nat}{ow2:Own}{μ2:Nat->Nat}{st2:List BX} (m:Emb ρ γ ow μ st ow2 μ2 st2) {s:SV}{v:Value} (h:SRep P D w ow μ st s v):∀ {s':SV},renS st ρ γ s=some s'->SRep P D w ow2 μ2 st2 s' v:=by
 induction h with
 | undef=>intro s' hs;simp only [renS,Option.some.injEq] at hs;subst hs;exact .undef
 | bool=>intro s' hs;simp only [renS,Option.some.injEq] at hs;subst hs;exact .bool
 | int=>intro s' hs;simp only [renS,Option.some.injEq] at hs;subst hs;exact .int
 | str=>intro s' hs;simp only [renS,Option.some.injEq] at hs;subst hs;exact .str
 | slice h=>intro s' hs;simp only [renS,Option.some.injEq] at hs;subst hs;exact .slice h
 | data hT h=>intro s' hs;simp only [renS,Option.some.injEq] at hs;subst hs;exact .data hT h
 | agg hT hl ho hv _ ih=>
  intro s' hs
  simp only [renS] at hs
  split at hs
  ·rename_i gs hg
   simp only [Option.some.injEq] at hs;subst hs
   obtain ⟨h1,h2⟩:=agx hg
   refine .agg hT hl ho (by rw [h1];exact hv) (fun i x f hx hf=>?_)
   obtain ⟨y,hy,hyx⟩:=h2 i x hx
   exact ih i y f hy hf hyx
  ·cases hs
 | map h=>intro s' hs;simp only [renS,Option.some.injEq] at hs;subst hs;exact .map h
 | nils=>intro s' hs;simp only [renS,Option.some.injEq] at hs;subst hs;exact .nils
 | lit h=>intro s' hs;simp only [renS,Option.some.injEq] at hs;subst hs;exact .slice h
 | sln h=>intro s' hs;simp only [renS,Option.some.injEq] at hs;subst hs;exact .slice h
 | mitr hk=>intro s' hs;simp [renS] at hs
 | @acc k g g0 E xs v h hk hg ho=>
  intro s' hs
  simp only [renS,Option.some.injEq] at hs
  split at hs
  ·rename_i k' hk'
   cases ha:ana st k g with
   | false=>rw [ha] at hs;simp only [cond_false] at hs;subst hs;exact .slice h
   | true=>
    rw [ha] at hs
    simp only [cond_true] at hs;subst hs
    obtain ⟨b',h1,h2,h3,h4,_⟩:=m.obj k k' _ hk' hk
    rw [h4 ⟨_,rfl⟩] at h1
    refine .acc h h1 (Nat.le_refl _) (fun _=>?_)
    have hgg:g=g0:=by
     unfold ana at ha
     rw [hk] at ha
     exact Nat.eq_of_beq_eq_true ha
    rcases ho hgg with ho | ⟨b,cap,cur,q1,q2,q3,q4,q5,q6,q7⟩
    ·exact Or.inl ho
    ·exact Or.inr ⟨b,cap,cur,q1,q2,q3,q4,q5,m.own k k' b hk' q6,q7⟩
  ·subst hs;exact .slice h
 | ref hk hp=>
  intro s' hs
  simp only [renS] at hs
  split at hs
  ·rename_i k' hk'
   simp only [Option.some.injEq] at hs;subst hs
   obtain ⟨b',h1,h2,h3,_⟩:=m.obj _ k' _ hk' hk
   obtain ⟨s1,rfl⟩:=ak8 h2
   rw [<-h3 (by simp)]
   exact .ref h1 hp
  ·cases hs
 | mref hk=>
  intro s' hs
  simp only [renS] at hs
  split at hs
  ·rename_i k' hk'
   simp only [Option.some.injEq] at hs;subst hs
   obtain ⟨b',h1,h2,h3,_⟩:=m.obj _ k' _ hk' hk
   obtain ⟨s1,rfl⟩:=avr h2
   rw [<-h3 (by simp)]
   exact .mref h1
  ·cases hs
 | iref hk=>intro s' hs;simp [renS] at hs
 | bref hk=>
  intro s' hs
  simp only [renS] at hs
  split at hs
  ·rename_i k' hk'
   simp only [Option.some.injEq] at hs;subst hs
   obtain ⟨b',h1,h2,h3,_⟩:=m.obj _ k' _ hk' hk
   obtain ⟨s1,rfl⟩:=avq h2
   rw [<-h3 (by simp)]
   exact .bref h1
  ·cases hs
 | nx h1 h2=>intro s' hs;simp [renS] at hs
 | eif h1 h2=>intro s' hs;simp only [renS,Option.some.injEq] at hs;subst hs;exact .eif h1 h2
 | ifc _ ih=>
  intro s' hs
  simp only [renS] at hs
  split at hs
  ·rename_i x hx
   simp only [Option.some.injEq] at hs;subst hs
   exact .ifc (ih hx)
  ·cases hs
 | pto h1 h2=>intro s' hs;simp only [renS,Option.some.injEq] at hs;subst hs;exact .pto h1 h2
 | fn hn0 hs0 _ ih=>
  intro s' hs
  simp only [renS] at hs
  split at hs
  ·rename_i gs hg
   simp only [Option.some.injEq] at hs;subst hs
   obtain ⟨h1,h2⟩:=agx hg
   refine .fn hn0 (by rw [h1];exact hs0) (fun i x u hx hu=>?_)
   obtain ⟨y,hy,hyx⟩:=h2 i x hx
   exact ih i y u hy hu hyx
  ·cases hs
 | tup hs0 _ ih=>intro s' hs;simp [renS] at hs
 | raw=>intro s' hs;simp only [renS,Option.some.injEq] at hs;subst hs;exact .raw
 | eref hk hT hi=>
  intro s' hs
  simp only [renS] at hs
  split at hs
  ·rename_i k' hk'
   simp only [Option.some.injEq] at hs;subst hs
   obtain ⟨b',h1,h2,h3,_⟩:=m.obj _ k' _ hk' hk
   obtain ⟨s1,rfl⟩:=ak8 h2
   rw [<-h3 (by simp)]
   exact .eref h1 hT hi
  ·cases hs
 | asl hk hT hi hc=>
  intro s' hs
  simp only [renS] at hs
  split at hs
  ·rename_i k' hk'
   simp only [Option.some.injEq] at hs;subst hs
   obtain ⟨b',h1,h2,h3,_⟩:=m.obj _ k' _ hk' hk
   obtain ⟨s1,rfl⟩:=ak8 h2
   rw [<-h3 (by simp)]
   exact .asl h1 hT hi hc
  ·cases hs
 | @arrOld k g g0 E E' xs v hk hlt ho=>
  intro s' hs
  simp only [renS] at hs
  split at hs
  ·have:adv st k g=false:=by
    unfold adv
    rw [hk]
    show Nat.beq g g0=false
    cases hb:Nat.beq g g0 with
    | false=>rfl
    | true=>have:=Nat.eq_of_beq_eq_true hb;omega
   rw [this] at hs;cases hs
  ·cases hs
 | @arrNil k g E a hk=>
  intro s' hs
  simp only [renS] at hs
  split at hs
  ·rename_i k' hk'
   cases ha:adv st k g with
   | false=>rw [ha] at hs;cases hs
   | true=>
    rw [ha] at hs
    simp only [cond_true,Option.some.injEq] at hs;subst hs
    obtain ⟨b',h1,h2,h3,_,h5⟩:=m.obj k k' _ hk' hk
    rw [h5 _ _ _ rfl] at h1
    exact .arrNil h1
  ·cases hs
 | @arr k g cap E xs cur hk hl hmx hc ho hsz=>
  intro s' hs
  simp only [renS] at hs
  split at hs
  ·rename_i k' hk'
   cases ha:adv st k g with
   | false=>rw [ha] at hs;cases hs
   | true=>
    rw [ha] at hs
    simp only [cond_true,Option.some.injEq] at hs;subst hs
    obtain ⟨b',h1,h2,h3,_,h5⟩:=m.obj k k' _ hk' hk
    rw [h5 _ _ _ rfl] at h1
    have e:=h3 (by simp)
    rw [<-e]
    exact .arr h1 hl hmx (by rw [e];exact hc) (by rw [e];exact m.own k k' _ hk' ho) hsz
  ·cases hs
 | @arefOld k g g0 i E E' T path xs v hk hlt ho=>
  intro s' hs
  simp only [renS] at hs
  split at hs
  ·have:adv st k g=false:=by
    unfold adv
    rw [hk]
    show Nat.beq g g0=false
    cases hb:Nat.beq g g0 with
    | false=>rfl
    | true=>have:=Nat.eq_of_beq_eq_true hb;omega
   rw [this] at hs;cases hs
  ·cases hs
 | @aref k g i off E T path xs cur hk hl hp hc ho=>
  intro s' hs
  simp only [renS] at hs
  split at hs
  ·rename_i k' hk'
   cases ha:adv st k g with
   | false=>rw [ha] at hs;cases hs
   | true=>
    rw [ha] at hs
    simp only [cond_true,Option.some.injEq] at hs;subst hs
    obtain ⟨b',h1,h2,h3,_,h5⟩:=m.obj k k' _ hk' hk
    rw [h5 _ _ _ rfl] at h1
    have e:=h3 (by simp)
    rw [<-e]
    exact .aref h1 hl hp (by rw [e];exact hc) (by rw [e];exact m.own k k' _ hk' ho)
  ·cases hs
theorem ar8 {P:Program}{ρ:Nat->Option Nat}{γ:Nat->Nat}{ow2:Own}{μ2:Nat->Nat}{st2:List BX} (m:Emb ρ γ ow μ st ow2 μ2 st2) {rs rs':List SV}{v:Value} (h:SRep P D w ow μ st (adf rs) v) (hr:renL st ρ γ rs=some rs'):SRep P D w ow2 μ2 st2 (adf rs') v:=by
 obtain ⟨h1,h2⟩:=agx hr
 by_cases hl:rs.length=1
 ·match rs,hl,rs',h1 with
  | [s],_,[s'],_=>
   obtain ⟨y,hy,hyx⟩:=h2 0 s' rfl
   simp at hy;subst hy
   exact ad7 m h hyx
 ·have e1:∀ l:List SV,l.length≠1->adf l=.tup l:=by
   intro l hl
   match l,hl with
   | [],_=>rfl
   | [x],hl=>exact absurd rfl hl
   | x::y::r,_=>rfl
  rw [e1 rs hl] at h
  rw [e1 rs' (by omega)]
  cases h with
  | tup hs hall=>
   refine .tup (by rw [h1];exact hs) (fun i x u hx hu=>?_)
   obtain ⟨y,hy,hyx⟩:=h2 i x hx
   exact ad7 m (hall i y u hy hu) hyx
theorem axu {P:Program}{ρ:Nat->Option Nat}{γ:Nat->Nat}{ow2:Own}{μ2:Nat->Nat}{st2:List BX} (m:Emb ρ γ ow μ st ow2 μ2 st2) {rs rs':List SV}{v:Value} (h:ahq P D w ow μ st rs v) (hr:renL st ρ γ rs=some rs'):ahq P D w ow2 μ2 st2 rs' v/\agj rs' v=agj rs v:=by
 rcases abw h with ⟨s,rfl,h1,h2⟩ | ⟨hne,h1,h2⟩
 ·simp only [renL,renS] at hr
  split at hr
  ·rename_i x q hx hq
   simp only [Option.some.injEq] at hq hr
   subst hq;subst hr
   split at hx
   ·rename_i y hy
    simp only [Option.some.injEq] at hx;subst hx
    exact ⟨ad7 m h1 hy,rfl⟩
   ·cases hx
  ·cases hr
 ·obtain ⟨q1,q2⟩:=ajk (ar8 m h1 hr)
  exact ⟨q1,q2.trans h2.symm⟩
theorem acf {ρ:Nat->Option Nat}{γ:Nat->Nat}{k:Nat}{b b':BX} (h:agw st ρ γ k b=some b'):b'.kind=b.kind/\((∃ g,b=.acc g)->b'=.acc (γ k))/\(∀ E g xs,b=.arr E g xs->b'=.arr E (γ k) xs):=by
 unfold agw at h
 split at h
 ·split at h
  ·cases h;exact ⟨rfl,(fun ⟨g,hg⟩=>by cases hg),fun E g xs e=>by cases e⟩
  ·cases h
 ·cases h;exact ⟨rfl,fun _=>rfl,fun E g xs e=>by cases e⟩
 ·cases h;exact ⟨rfl,(fun ⟨g,hg⟩=>by cases hg),fun E g xs e=>by cases e;rfl⟩
 ·cases h
 ·cases h
 ·rename_i h1 h2 h3 h4 h5
  cases h;exact ⟨rfl,fun ⟨g,hg⟩=>absurd hg (h2 g),fun E g xs e=>absurd e (h3 E g xs)⟩
theorem ObjIn.ren {P:Program}{ρ:Nat->Option Nat}{γ:Nat->Nat}{ow2:Own}{μ2:Nat->Nat}{st2:List BX} (m:Emb ρ γ ow μ st ow2 μ2 st2) {j k:Nat}{b b':BX} (hj:st[j]?=some b) (hk:ρ j=some k) (h:ObjIn P D w ow μ st j b) (hr:agw st ρ γ j b=some b'):ObjIn P D w ow2 μ2 st2 k b':=by
 obtain ⟨b2,_,_,hμ,_⟩:=m.obj j k b hk hj
 cases b with
 | box T s=>
  simp only [agw] at hr
  split at hr
  ·rename_i x hx
   cases hr
   have e:=hμ (by simp)
   obtain ⟨cells,T',q1,q2,q3,q4,q5⟩:=h
   exact ⟨cells,T',by rw [e];exact q1,q2,by rw [e];exact m.own j k _ hk q3,by rw [e];exact q4,ad7 m q5 hx⟩
  ·cases hr
 | map K E es=>
  simp only [agw,Option.some.injEq] at hr;subst hr
  have e:=hμ (by simp)
  obtain ⟨ents,clock,kc,vc,q1,q2,q3,q4⟩:=h
  exact ⟨ents,clock,kc,vc,by rw [e];exact q1,by rw [e];exact m.own j k _ hk q2,by rw [e];exact q3,q4⟩
 | acc g=>simp only [agw,Option.some.injEq] at hr;subst hr;trivial
 | hole=>simp only [agw,Option.some.injEq] at hr;subst hr;trivial
 | iter s p=>simp [agw] at hr
 | mit K E es=>simp [agw] at hr
 | bld T bs=>
  simp only [agw,Option.some.injEq] at hr;subst hr
  have e:=hμ (by simp)
  obtain ⟨p,v,q1,q2,q3,q4,q5⟩:=h
  refine ⟨p,v,by rw [e];exact q1,by rw [e];exact q2,by rw [e];exact m.own j k _ hk q3,by rw [e];exact q4,?_⟩
  rcases q5 with q5 | ⟨g,cap,cur,fz,a1,a2,a4,a5,a6,a7,a8,a9,a10,a11⟩
  ·exact Or.inl q5
  ·exact Or.inr ⟨g,cap,cur,fz,a1,a2,a4,a5,a6,a7,a8,by rw [e];exact a9,m.own j k _ hk a10,a11⟩
 | arr E g xs=>
  simp only [agw,Option.some.injEq] at hr;subst hr
  have e:=hμ (by simp)
  have h0:aux P D w ow μ j E xs:=h
  show aux P D w ow2 μ2 k E xs
  rcases h0 with h0 | ⟨cur,q1,q2,q3,q4,q5⟩
  ·exact Or.inl h0
  ·exact Or.inr ⟨cur,by rw [e];exact q1,by rw [e];exact m.own j k _ hk q2,by rw [e];exact q3,q4,q5⟩
theorem agc:∀ (l ks:List Nat),ks.Nodup->(aez ks l).Nodup:=by
 intro l
 induction l with
 | nil=>intro ks h;exact h
 | cons k r ih=>
  intro ks h
  unfold aez
  refine ih _ ?_
  cases hb:ks.any (Nat.beq k) with
  | true=>simpa using h
  | false=>
   simp only [cond_false]
   refine List.nodup_append.2 ⟨h,by simp,fun a ha b hb' e=>?_⟩
   simp at hb';subst hb';subst e
   have:ks.any (Nat.beq a)=true:=List.any_eq_true.2 ⟨a,ha,Nat.beq_refl a⟩
   rw [hb] at this;cases this
theorem afp:∀ (l ks:List Nat),∃ r,aez ks l=ks++r:=by
 intro l
 induction l with
 | nil=>intro ks;exact ⟨[],by simp [aez]⟩
 | cons k r ih=>
  intro ks
  unfold aez
  obtain ⟨q,hq⟩:=ih (bif ks.any (Nat.beq k) then ks else ks++[k])
  cases hb:ks.any (Nat.beq k) with
  | true=>rw [hb] at hq;exact ⟨q,hq⟩
  | false=>rw [hb] at hq;simp only [cond_false] at hq ⊢;exact ⟨[k]++q,by rw [hq];simp⟩
theorem amk:∀ (n:Nat) (ks:List Nat),ks.Nodup->(at9 st n ks).Nodup:=by
 intro n
 induction n with
 | zero=>intro ks h;exact h
 | succ n ih=>intro ks h;exact ih _ (agc _ _ h)
theorem akt:∀ (n:Nat) (ks:List Nat),∃ r,at9 st n ks=ks++r:=by
 intro n
 induction n with
 | zero=>intro ks;exact ⟨[],by simp [at9]⟩
 | succ n ih=>
  intro ks
  obtain ⟨r,hr⟩:=ih (aez ks (ks.flatMap (az2 st)))
  obtain ⟨q,hq⟩:=afp (ks.flatMap (az2 st)) ks
  exact ⟨q++r,by rw [at9,hr,hq,List.append_assoc]⟩
theorem ada (st:List BX) (args:List SV):(aap st args).Nodup:=amk _ _ (agc _ _ (by simp))
theorem akm (st:List BX) (np:Nat) (vs:List SV):(ae5 st np vs).Nodup:=amk _ _ (agc _ _ List.nodup_range)
theorem ait (st:List BX) (np:Nat) (vs:List SV):∃ r,ae5 st np vs=List.range np++r:=by
 obtain ⟨r,hr⟩:=akt (st:=st) 4 (aez (List.range np) (afd false st vs))
 obtain ⟨q,hq⟩:=afp (afd false st vs) (List.range np)
 exact ⟨q++r,by rw [ae5,hr,hq,List.append_assoc]⟩
theorem auf {st:List BX}{args:List SV} (h:aap st args=[]):afd false st args=[]:=by
 obtain ⟨r,hr⟩:=akt (st:=st) 4 (aez [] (afd false st args))
 unfold aap at h
 rw [hr] at h
 have h1:=(List.append_eq_nil_iff.1 h).1
 cases hl:afd false st args with
 | nil=>rfl
 | cons k r=>
  rw [hl] at h1
  unfold aez at h1
  obtain ⟨q,hq⟩:=afp r (bif ([]:List Nat).any (Nat.beq k) then [] else []++[k])
  rw [hq] at h1
  simp at h1
theorem apg {k:Nat}:∀ {ks:List Nat},ks.any (Nat.beq k)=true->ks[idx k ks]?=some k:=by
 intro ks
 induction ks with
 | nil=>intro h;simp at h
 | cons x r ih=>
  intro h
  unfold idx
  cases hb:Nat.beq k x with
  | true=>have:=Nat.eq_of_beq_eq_true hb;subst this;simp
  | false=>
   simp only [List.any_cons,hb,Bool.false_or] at h
   simpa using ih h
theorem akb {ks:List Nat}{k j:Nat} (h:ab8 ks k=some j):ks[j]?=some k:=by
 unfold ab8 at h
 cases hb:ks.any (Nat.beq k) with
 | false=>rw [hb] at h;cases h
 | true=>rw [hb] at h;simp only [cond_true,Option.some.injEq] at h;subst h;exact apg hb
theorem amh {ks:List Nat} (hn:ks.Nodup) {i j k:Nat} (hi:ks[i]?=some k) (hj:ks[j]?=some k):i=j:=by
 obtain ⟨hi1,hi2⟩:=List.getElem?_eq_some_iff.1 hi
 obtain ⟨hj1,hj2⟩:=List.getElem?_eq_some_iff.1 hj
 rcases Nat.lt_trichotomy i j with h | h | h
 ·exact absurd (hi2.trans hj2.symm) (List.pairwise_iff_getElem.1 hn i j hi1 hj1 h)
 ·exact h
 ·exact absurd (hj2.trans hi2.symm) (List.pairwise_iff_getElem.1 hn j i hj1 hi1 h)
theorem avm {ks:List Nat} (hn:ks.Nodup) {k j:Nat} (h:ks[j]?=some k):ab8 ks k=some j:=by
 have hb:ks.any (Nat.beq k)=true:=List.any_eq_true.2 ⟨k,List.mem_of_getElem? h,Nat.beq_refl k⟩
 unfold ab8
 rw [hb]
 simp only [cond_true,Option.some.injEq]
 exact amh hn (apg hb) h
theorem ahm {ρ:Nat->Option Nat}{γ:Nat->Nat}:∀ (ks:List Nat) (sub:List BX),agb st ρ γ ks=some sub->sub.length=ks.length/\∀ (j k:Nat),ks[j]?=some k->∃ b b',st[k]?=some b/\agw st ρ γ k b=some b'/\sub[j]?=some b':=by
 intro ks
 induction ks with
 | nil=>intro sub h;simp [agb] at h;subst h;exact ⟨rfl,fun j k hj=>by simp at hj⟩
 | cons x r ih=>
  intro sub h
  unfold agb at h
  split at h
  ·rename_i b hb
   split at h
   ·rename_i y q hy hq
    simp only [Option.some.injEq] at h;subst h
    obtain ⟨h1,h2⟩:=ih q hq
    refine ⟨by simp [h1],fun j k hj=>?_⟩
    cases j with
    | zero=>simp at hj;subst hj;exact ⟨b,y,hb,hy,rfl⟩
    | succ j=>simp at hj;simpa using h2 j k hj
   ·simp at h
  ·simp at h
def afi (ow:Own) (ks:List Nat) (b:Nat):Option Nat:=match ow b with | some k=>ab8 ks k | none=>none
theorem ad6 {ks:List Nat}{b j:Nat} (h:afi ow ks b=some j):∃ k,ks[j]?=some k/\ow b=some k:=by
 unfold afi at h
 split at h
 ·rename_i k hk
  exact ⟨k,akb h,hk⟩
 ·cases h
theorem apx {ks:List Nat} (hn:ks.Nodup) {j k b:Nat} (hj:ks[j]?=some k) (hb:ow b=some k):afi ow ks b=some j:=by
 unfold afi
 rw [hb]
 exact avm hn hj
theorem akf {ks:List Nat}{b:Nat} (h:∀ k,k∈ks->ow b≠some k):afi ow ks b=none:=by
 cases hh:afi ow ks b with
 | none=>rfl
 | some j=>
  obtain ⟨k,h1,h2⟩:=ad6 hh
  exact absurd h2 (h k (List.mem_of_getElem? h1))
theorem Emb.sub {ks:List Nat}{sub:List BX}{γ:Nat->Nat} (hn:ks.Nodup) (hs:agb st (ab8 ks) γ ks=some sub):Emb (ab8 ks) γ ow μ st (afi ow ks) (fun j=>μ (ks.getD j 0)) sub:=by
 obtain ⟨h1,h2⟩:=ahm ks sub hs
 refine ⟨fun k j b hk hb=>?_,fun k j b hk ob=>apx hn (akb hk) ob⟩
 have hj:=akb hk
 obtain ⟨b0,b',q1,q2,q3⟩:=h2 j k hj
 rw [hb] at q1;cases q1
 obtain ⟨r1,r2⟩:=acf q2
 exact ⟨b',q3,r1,fun _=>by simp [List.getD,hj],r2⟩
theorem Objs.sub {P:Program} (h:Objs P D ow μ st w) {ks:List Nat}{sub:List BX}{γ:Nat->Nat} (hn:ks.Nodup) (hs:agb st (ab8 ks) γ ks=some sub):Objs P D (afi ow ks) (fun j=>μ (ks.getD j 0)) sub w:=by
 have m:=Emb.sub (ow:=ow) (μ:=μ) hn hs
 obtain ⟨h1,h2⟩:=ahm ks sub hs
 refine ⟨fun j b' hj=>?_,fun b j hb=>?_,h.dlt,fun b j x hb hx hacc o d=>?_⟩
 ·have hlt:j<ks.length:=by have:=(List.getElem?_eq_some_iff.1 hj).1;omega
  have hk:ks[j]?=some ks[j]:=List.getElem?_eq_getElem hlt
  obtain ⟨b0,b1,q1,q2,q3⟩:=h2 j _ hk
  rw [hj] at q3;cases q3
  exact (h.obj _ _ q1).ren m q1 (avm hn hk) q2
 ·obtain ⟨k,hk,hob⟩:=ad6 hb
  exact ⟨(h.owlt _ _ hob).1,by rw [h1];exact (List.getElem?_eq_some_iff.1 hk).1⟩
 ·obtain ⟨k,hk,hob⟩:=ad6 hb
  obtain ⟨b0,b1,q1,q2,q3⟩:=h2 j k hk
  rw [hx] at q3;cases q3
  exact h.lone b k b0 hob q1 (afb (acf q2).1.symm hacc) o d
theorem WRel.objs (hw:WRel Γ D ow μ st w):Objs Γ.P D ow μ st w:=by
 refine ⟨fun k b hk=>?_,hw.owlt,hw.dlt,hw.lone⟩
 cases b with
 | box T s=>exact hw.box k T s hk
 | map K E es=>exact hw.map k K E es hk
 | acc g=>trivial
 | hole=>trivial
 | _=>exact hw.obj k _ hk
end
end Go.Ab
namespace Go.Ab
open Go
section
variable {Γ:Ctx}{D:Dom}{ow:Own}{μ:Nat->Nat}{st:List BX}{w:World}
theorem WRel.letGo (hw:WRel Γ D ow μ st w) (hnp:Γ.np=0) (fz:List Nat):WRel Γ (ade D ow μ st fz) (fun _=>none) μ [] w:=by
 refine ⟨fun k T s h=>(by simp at h),fun k K E es h=>(by simp at h),fun k b h=>(by simp at h),fun b k h=>(by cases h),fun b o d=>?_,hw.os,hw.tape,hw.output,hw.hs,hw.old,fun b o d=>Or.inl (hw.dom0 b o d),fun b o d=>?_,fun b k h=>(by cases h),(by rw [hnp];exact Nat.zero_le _),fun k h=>(by omega),fun k h=>(by omega),fun b k x h=>(by cases h),hw.keep0,fun k h=>(by omega)⟩
 ·rcases ac6 d with d | ⟨k,_,h,_⟩
  ·exact hw.dlt b o d
  ·exact (hw.owlt b k h).1
 ·rcases ac6 d with d | ⟨k,_,h,_⟩
  ·exact hw.domN b o d
  ·by_cases hb:b<Γ.B
   ·exact Or.inr (Or.inr (by rw [hw.owN b k h hb];simp))
   ·exact Or.inr (Or.inl (by omega))
theorem aw9 {P:Program}{args as1:List SV}{vals:Array Value} (hw:WRel Γ D ow μ st w) (hP:P=Γ.P) (hargs:∀ (i:Nat) (s:SV) (v:Value),args[i]?=some s->vals[i]?=some v->SRep Γ.P D w ow μ st s v) (hr:renL st (fun _=>none) (fun _=>0) (frzL st args)=some as1):
 as1.length=args.length/\∀ (i:Nat) (s:SV) (v:Value),as1[i]?=some s->vals[i]?=some v->SRep Γ.P (ade D ow μ st (ao1 args)) w (fun _=>none) μ [] s v:=by
 obtain ⟨h1,h2⟩:=agx hr
 have em:Emb (fun _=>none) (fun _=>0) ow μ st (fun _=>none) μ []:=⟨fun _ _ _ h=>(by simp at h),fun _ _ _ h=>(by simp at h)⟩
 refine ⟨by rw [h1,aly],fun i s v hs hv=>?_⟩
 obtain ⟨y,hy,hren⟩:=h2 i s hs
 rw [avj] at hy
 obtain ⟨z,hz,rfl⟩:=Option.map_eq_some_iff.1 hy
 exact ad7 em (aka (fz:=ao1 args) hw (hargs i z v hz hv) fun k hk=>aqp hz hk) hren
end
end Go.Ab
