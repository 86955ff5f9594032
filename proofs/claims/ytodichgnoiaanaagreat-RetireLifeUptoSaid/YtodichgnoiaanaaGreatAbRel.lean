/- The relation of the evaluator's state to the model's, and how it is kept. -/
import Derived.Test.YtodichgnoiaanaaGreatAbOps
import Derived.Laws.IdiomRangeMap
set_option linter.unusedVariables false
set_option linter.unusedSimpArgs false
set_option linter.unnecessarySimpa false
namespace Go.Ab
open Go
structure Ctx where
 P:Program
 n:Nat
 B:Nat
 w0:World
 D0:Dom
 ow0:Own
 np:Nat
 μ0:Nat->Nat
 K0:Nat->List Nat
 L0:Nat->Nat
 hB:B=w0.heap.size
 tabs:Tabs P ow0 w0
def BoxRep (P:Program) (D:Dom) (w:World) (ow:Own) (μ:Nat->Nat) (st:List BX) (k:Nat) (T:TypeId) (s:SV):Prop:=
 ∃ (cells:List Value) (T':TypeId),w.heap[μ k]?=some (.cells cells.toArray T' (0,0))/\cells.length=P.cellsOf T/\ow (μ k)=some k/\(∀ o,¬D (μ k) o)/\SRep P D w ow μ st s (pack P T cells)
def AtIdx (ents:Array MapEntry) (clock:Nat):Prop:=clock=ents.size/\∀ (i:Nat) (e:MapEntry),ents[i]?=some e->e.born=i
theorem AtIdx.nil:AtIdx #[] 0:=⟨rfl,fun i e h=>by simp at h⟩
theorem AtIdx.push {ents:Array MapEntry}{clock:Nat} (h:AtIdx ents clock) (e:MapEntry) (he:e.born=clock):AtIdx (ents.push e) (clock+1):=by
 refine ⟨by rw [h.1];simp,fun i x hx=>?_⟩
 rw [Array.getElem?_push] at hx
 split at hx
 ·rename_i hi;cases hx;rw [he,h.1,hi]
 ·exact h.2 i x hx
theorem AtIdx.same {ents ents':Array MapEntry}{clock:Nat} (h:AtIdx ents clock) (hl:ents'.size=ents.size) (hs:∀ (i:Nat) (x:MapEntry),ents'[i]?=some x->∃ y,ents[i]?=some y/\y.born=x.born):AtIdx ents' clock:=by
 refine ⟨by rw [hl];exact h.1,fun i x hx=>?_⟩
 obtain ⟨y,h1,h2⟩:=hs i x hx
 rw [<-h2];exact h.2 i y h1
def OMapRep (P:Program) (D:Dom) (w:World) (ow:Own) (μ:Nat->Nat) (k:Nat) (K E:TypeId) (es:List (PV×PV)):Prop:=
 ∃ (ents:Array MapEntry) (clock:Nat) (kc vc:Nat->List Value),w.heap[μ k]?=some (.map ents clock)/\ow (μ k)=some k/\(∀ o,¬D (μ k) o)/\ents.size=es.length/\
  (∀ (i:Nat) (x:PV×PV),es[i]?=some x->Rep P D w K x.1 (kc i))/\(∀ (i:Nat) (x:PV×PV),es[i]?=some x->Rep P D w E x.2 (vc i))/\
  au0 P K E kc vc ents clock/\AtIdx ents clock
def IterRep (D:Dom) (w:World) (ow:Own) (μ:Nat->Nat) (k:Nat) (s:List UInt8) (p:Nat):Prop:=
 w.heap[μ k]?=some (.stringIter ⟨s.toArray⟩ p)/\ow (μ k)=some k/\(∀ o,¬D (μ k) o)
def ayo (P:Program):Nat->TypeId->TypeId
 | 0,_=>0
 | n+1,T=>
  match P.underlying T with
  | some (.struct fs)=>
   match fs.toList with
   | [f]=>ayo P n f.type
   | [_,g]=>(match P.underlying g.type with | some (.slice e)=>e | _=>0)
   | _=>0
  | _=>0
def auy (P:Program) (D:Dom) (w:World) (ow:Own) (μ:Nat->Nat) (k:Nat) (T:TypeId) (bs:List UInt8):Prop:=
 ∃ p v,w.heap[μ k]?=some (.cells #[p,v] T (0,0))/\(p=.pointer none∨p=.pointer (some ⟨μ k,0,none⟩))/\ow (μ k)=some k/\(∀ o,¬D (μ k) o)/\
  ((v=.slice none 0 0/\bs=[])∨∃ g cap cur fz,v=.slice (some ⟨g,0,none⟩) bs.length cap/\w.heap[g]?=some (.cells cur (ayo P 3 T) fz)/\fz.2<=bs.length/\bs.length<=cap/\cap<=maxLen/\cur.size=cap/\
    cur.toList.take bs.length=bs.map (fun b=>Value.int .u8 b.toNat)/\g≠μ k/\ow g=some k/\∀ o,¬D g o)
def aux (P:Program) (D:Dom) (w:World) (ow:Own) (μ:Nat->Nat) (k:Nat) (E:TypeId) (xs:List PV):Prop:=
 xs=[]∨∃ cur:Array Value,w.heap[μ k]?=some (.cells cur E (0,0))/\ow (μ k)=some k/\(∀ o,¬D (μ k) o)/\xs.length*P.cellsOf E<=cur.size/\
  ∀ (i:Nat) (x:PV),xs[i]?=some x->Rep P D w E x ((cur.toList.drop (i*P.cellsOf E)).take (P.cellsOf E))
def CurRep (P:Program) (D:Dom) (w:World) (m:Option Nat) (c0:Nat) (seen:Array Nat) (K E:TypeId) (e:PV×PV):Prop:=
 ∃ (r:Nat) (ents:Array MapEntry) (ent:MapEntry) (kc vc:List Value),m=some r/\D r 0/\w.heap[r]?=some (.map ents c0)/\seen.back?=some ent.born/\ents.find? (fun x=>x.born==ent.born)=some ent/\
  Rep P D w K e.1 kc/\Rep P D w E e.2 vc/\ent.key=pack P K kc/\ent.val=pack P E vc
theorem CurRep.mono {P:Program}{D D':Dom}{w w':World}{m:Option Nat}{c0:Nat}{seen:Array Nat}{K E:TypeId}{e:PV×PV} (h:CurRep P D w m c0 seen K E e) (hd:∀ x o,D x o->D' x o) (hk:Keeps D w w'):CurRep P D' w' m c0 seen K E e:=by
 obtain ⟨r,ents,ent,kc,vc,a1,a2,a3,a4,a5,a6,a7,a8,a9⟩:=h
 exact ⟨r,ents,ent,kc,vc,a1,hd _ _ a2,hk.map _ _ a2 _ _ a3,a4,a5,a6.mono hd hk,a7.mono hd hk,a8,a9⟩
def au3 (P:Program) (D:Dom) (w:World) (ow:Own) (μ:Nat->Nat) (k:Nat) (K E:TypeId) (c:Option (PV×PV)) (es:List (PV×PV)):Prop:=
 (∀ o,¬D (μ k) o)/\ow (μ k)=some k/\∃ (m:Option Nat) (since c0:Nat) (seen:Array Nat),w.heap[μ k]?=some (.mapIter m since seen c0)/\
  ((m=none/\es=[])∨∃ (r clock:Nat) (ents:Array MapEntry) (kc vc:Nat->List Value),m=some r/\D r 0/\w.heap[r]?=some (.map ents clock)/\since=clock/\clock<=c0/\BornOk ents clock/\(leftOf ents seen).size=es.length/\
    (∀ (i:Nat) (x:PV×PV),es[i]?=some x->Rep P D w K x.1 (kc i))/\(∀ (i:Nat) (x:PV×PV),es[i]?=some x->Rep P D w E x.2 (vc i))/\
    ∀ (i:Nat) (e:MapEntry),(leftOf ents seen)[i]?=some e->e.key=pack P K (kc i)/\e.val=pack P E (vc i))/\
  ∀ e,c=some e->CurRep P D w m c0 seen K E e
def ObjRep (P:Program) (D:Dom) (w:World) (ow:Own) (μ:Nat->Nat) (k:Nat):BX->Prop
 | .iter s p=>IterRep D w ow μ k s p
 | .bld T bs=>auy P D w ow μ k T bs
 | .arr E _ xs=>aux P D w ow μ k E xs
 | .mit K E c es=>au3 P D w ow μ k K E c es
 | _=>True
structure WRel (Γ:Ctx) (D:Dom) (ow:Own) (μ:Nat->Nat) (st:List BX) (w:World):Prop where
 box:∀ (k:Nat) (T:TypeId) (s:SV),st[k]?=some (.box T s)->BoxRep Γ.P D w ow μ st k T s
 map:∀ (k:Nat) (K E:TypeId) (es:List (PV×PV)),st[k]?=some (.map K E es)->OMapRep Γ.P D w ow μ k K E es
 obj:∀ (k:Nat) (b:BX),st[k]?=some b->ObjRep Γ.P D w ow μ k b
 owlt:∀ b k,ow b=some k->b<w.heap.size/\k<st.length
 dlt:∀ b o,D b o->b<w.heap.size
 os:w.os=Γ.w0.os
 tape:w.tape=Γ.w0.tape
 output:w.output=Γ.w0.output
 hs:Γ.B<=w.heap.size
 old:∀ b,b<Γ.B->Γ.ow0 b=none->w.heap[b]?=Γ.w0.heap[b]?
 dom0:∀ b o,Γ.D0 b o->D b o
 domN:∀ b o,D b o->Γ.D0 b o∨Γ.B<=b∨Γ.ow0 b≠none
 owN:∀ b k,ow b=some k->b<Γ.B->Γ.ow0 b=some k
 np:Γ.np<=st.length
 mu0:∀ k,k<Γ.np->(∀ E,Γ.K0 k≠[3,E])->μ k=Γ.μ0 k
 par:∀ k,k<Γ.np->∃ b,st[k]?=some b/\b.kind=Γ.K0 k
 lone:∀ (b k:Nat) (x:BX),ow b=some k->st[k]?=some x->(∀ g,x≠.acc g)->∀ o,¬D b o
 keep0:Keeps Γ.D0 Γ.w0 w
 arr0:∀ k,k<Γ.np->∀ E xs,st[k]?=some (.arr E 0 xs)->xs.length=Γ.L0 k/\ArrKeep Γ.w0 Γ.ow0 Γ.μ0 w ow μ k E
theorem ahc {b:BX}{E:TypeId} (h:b.kind=[3,E]):∃ g xs,b=.arr E g xs:=by
 cases b<;>simp [BX.kind] at h
 subst h;exact ⟨_,_,rfl⟩
theorem WRel.arr0_moves {Γ:Ctx}{D D':Dom}{ow ow':Own}{μ μ':Nat->Nat}{st st':List BX}{w w':World} (h:WRel Γ D ow μ st w) (m:Moves D w ow μ st D' w' ow' μ' st') (hp:∀ k,k<Γ.np->∃ b,st'[k]?=some b/\b.kind=Γ.K0 k):
 ∀ k,k<Γ.np->∀ E xs,st'[k]?=some (.arr E 0 xs)->xs.length=Γ.L0 k/\ArrKeep Γ.w0 Γ.ow0 Γ.μ0 w' ow' μ' k E:=by
 intro k hk E xs e
 obtain ⟨b,hb,p1⟩:=h.par k hk
 obtain ⟨b',hb',p2⟩:=hp k hk
 rw [e] at hb';cases hb'
 obtain ⟨g,ys,rfl⟩:=ahc (p1.trans p2.symm)
 obtain ⟨g',xs',h1,h2,h3⟩:=m.arr k E g ys hb
 rw [e] at h1;cases h1
 have hg:g=0:=by omega
 subst hg
 obtain ⟨h4,h5⟩:=h3 rfl
 obtain ⟨h6,h7⟩:=h.arr0 k hk E ys hb
 exact ⟨h4.trans h6,h7.trans h5⟩
def SlotRep (P:Program) (D:Dom) (w:World) (ow:Own) (μ:Nat->Nat) (st:List BX) (a:Act) (s:SV) (v:Value):Prop:=
 match s with
 | .gd t want x=>(a.tmps.getD t Go.undef=.bool want->SRep P D w ow μ st x v)/\(a.tmps.getD t Go.undef≠.bool want->v=Go.undef)
 | s=>SRep P D w ow μ st s v
structure Slots (Γ:Ctx) (D:Dom) (ow:Own) (μ:Nat->Nat) (e:Env) (st:List BX) (a:Act) (w:World):Prop where
 size:a.tmps.size=Γ.n
 defers:a.defers=[]
 slot:∀ t,SlotRep Γ.P D w ow μ st a (e t) (a.tmps.getD t Go.undef)
def Rel (Γ:Ctx) (e:Env) (st:List BX) (a:Act) (w:World):Prop:=
 ∃ D ow μ,WRel Γ D ow μ st w/\Slots Γ D ow μ e st a w
theorem SlotRep.mono {P:Program}{D D':Dom}{w w':World}{ow ow':Own}{μ μ':Nat->Nat}{st st':List BX}{a:Act}{s:SV}{v:Value} (h:SlotRep P D w ow μ st a s v) (m:Moves D w ow μ st D' w' ow' μ' st'):SlotRep P D' w' ow' μ' st' a s v:=by
 cases s with
 | gd t want x=>exact ⟨fun e=>(h.1 e).mono m,h.2⟩
 | _=>exact SRep.mono h m
theorem SRep.slot {P:Program}{D:Dom}{w:World}{ow:Own}{μ:Nat->Nat}{st:List BX}{a:Act}{s:SV}{v:Value} (h:SRep P D w ow μ st s v):SlotRep P D w ow μ st a s v:=by
 cases s with
 | gd t want x=>cases h
 | _=>exact h
theorem Act.getD_put (a:Act) (d t:Nat) (v:Value) (hd:d<a.tmps.size):(a.put (some d) v).tmps.getD t Go.undef=if t=d then v else a.tmps.getD t Go.undef:=by
 have e:∀ (x:Array Value),x.getD t Go.undef=(x[t]?).getD Go.undef:=fun x=>by simp
 rw [e,e]
 show ((a.tmps.setIfInBounds d v)[t]?).getD Go.undef=_
 by_cases h:t=d
 ·subst h;simp [hd]
 ·rw [if_neg h,Array.getElem?_setIfInBounds_ne (by omega)]
theorem Slots.mono {Γ:Ctx}{D D':Dom}{w w':World}{ow ow':Own}{μ μ':Nat->Nat}{e:Env}{st st':List BX}{a:Act} (h:Slots Γ D ow μ e st a w) (m:Moves D w ow μ st D' w' ow' μ' st'):Slots Γ D' ow' μ' e st' a w':=
 ⟨h.size,h.defers,fun t=>(h.slot t).mono m⟩
def awf (e:Env) (d:Nat):Prop:=∀ t u want x,e t=.gd u want x->u≠d
theorem Slots.put {Γ:Ctx}{D:Dom}{w:World}{ow:Own}{μ:Nat->Nat}{e:Env}{st:List BX}{a:Act} (h:Slots Γ D ow μ e st a w) (d:Option Nat) (s:SV) (v:Value)
 (hd:∀ x,d=some x->x<Γ.n/\awf e x) (hs:SlotRep Γ.P D w ow μ st a s v) (hg:∀ t want x,s=.gd t want x->d≠some t):Slots Γ D ow μ (Ab.put e d s) st (a.put d v) w:=by
 cases d with
 | none=>exact h
 | some d=>
  obtain ⟨hlt,hc⟩:=hd d rfl
  have hsz:d<a.tmps.size:=by rw [h.size];exact hlt
  refine ⟨by simp [Act.put,h.size],h.defers,fun t=>?_⟩
  rw [Act.getD_put a d t v hsz]
  show SlotRep Γ.P D w ow μ st _ (Env.set e d s t) _
  unfold Env.set
  by_cases ht:t=d
  ·subst ht
   simp only [Nat.beq_refl,cond_true,if_true]
   cases s with
   | gd u want x=>
    have hu:u≠t:=fun hh=>hg u want x rfl (by rw [hh])
    have e1:(a.put (some t) v).tmps.getD u Go.undef=a.tmps.getD u Go.undef:=by rw [Act.getD_put a t u v hsz,if_neg hu]
    simp only [SlotRep,e1];exact hs
   | _=>exact hs
  ·have e0:Nat.beq t d=false:=by
    cases hb:Nat.beq t d with
    | false=>rfl
    | true=>exact absurd (Nat.eq_of_beq_eq_true hb) ht
   simp only [e0,cond_false,if_neg ht]
   have hold:=h.slot t
   cases he:e t with
   | gd u want x=>
    rw [he] at hold
    have hu:u≠d:=hc t u want x he
    have e1:(a.put (some d) v).tmps.getD u Go.undef=a.tmps.getD u Go.undef:=by rw [Act.getD_put a d u v hsz,if_neg hu]
    simp only [SlotRep,e1];exact hold
   | _=>rw [he] at hold;exact hold
theorem abn (w:World) (o:Obj) (b:Nat) (h:b<w.heap.size):(w.alloc o).heap[b]?=w.heap[b]?:=by
 show (w.heap.push o)[b]?=_
 rw [Array.getElem?_push,if_neg (by omega)]
theorem aar (w:World) (o:Obj):(w.alloc o).heap[w.heap.size]?=some o:=by
 show (w.heap.push o)[w.heap.size]?=_
 simp
theorem cell?_of_heap {w w':World}{b:Nat} (h:w'.heap[b]?=w.heap[b]?) (o:Nat):w'.cell? ⟨b,o,none⟩=w.cell? ⟨b,o,none⟩:=by
 simp only [World.cell?,h]
theorem Keeps.of_heap {D:Dom}{w w':World} (h:∀ b o,D b o->w'.heap[b]?=w.heap[b]?):Keeps D w w':=
 ⟨fun b o d=>cell?_of_heap (h b o d) o,fun b o d es c e=>(h b o d).trans e⟩
def upd {α:Type} (f:Nat->α) (i:Nat) (x:α):Nat->α:=fun j=>if j=i then x else f j
theorem aae {α:Type} (f:Nat->α) (i:Nat) (x:α):upd f i x i=x:=by simp [upd]
theorem aal {α:Type} (f:Nat->α) {i j:Nat} (x:α) (h:j≠i):upd f i x j=f j:=by simp [upd,h]
theorem BoxRep.mono {P:Program}{D D':Dom}{w w':World}{ow ow':Own}{μ μ':Nat->Nat}{st st':List BX}{k:Nat}{T:TypeId}{s:SV} (h:BoxRep P D w ow μ st k T s) (m:Moves D w ow μ st D' w' ow' μ' st')
 (hμ:μ' k=μ k) (hh:w'.heap[μ k]?=w.heap[μ k]?) (ho:ow' (μ k)=some k) (hD:∀ o,¬D' (μ k) o):BoxRep P D' w' ow' μ' st' k T s:=by
 obtain ⟨cells,T',h1,h2,h3,h4,h5⟩:=h
 exact ⟨cells,T',by rw [hμ,hh];exact h1,h2,by rw [hμ];exact ho,by rw [hμ];exact hD,h5.mono m⟩
theorem OMapRep.mono {P:Program}{D D':Dom}{w w':World}{ow ow':Own}{μ μ':Nat->Nat}{k:Nat}{K E:TypeId}{es:List (PV×PV)} (h:OMapRep P D w ow μ k K E es) (hd:∀ x o,D x o->D' x o) (hk:Keeps D w w')
 (hμ:μ' k=μ k) (hh:w'.heap[μ k]?=w.heap[μ k]?) (ho:ow' (μ k)=some k) (hD:∀ o,¬D' (μ k) o):OMapRep P D' w' ow' μ' k K E es:=by
 obtain ⟨ents,clock,kc,vc,h1,h2,h3,h4,h5,h6,h7⟩:=h
 exact ⟨ents,clock,kc,vc,by rw [hμ,hh];exact h1,by rw [hμ];exact ho,by rw [hμ];exact hD,h4,fun i x a=>(h5 i x a).mono hd hk,fun i x a=>(h6 i x a).mono hd hk,h7⟩
theorem IterRep.mono {D D':Dom}{w w':World}{ow ow':Own}{μ μ':Nat->Nat}{k p:Nat}{s:List UInt8} (h:IterRep D w ow μ k s p) (hμ:μ' k=μ k) (hh:w'.heap[μ k]?=w.heap[μ k]?) (ho:ow' (μ k)=some k) (hD:∀ o,¬D' (μ k) o):IterRep D' w' ow' μ' k s p:=
 ⟨by rw [hμ,hh];exact h.1,by rw [hμ];exact ho,by rw [hμ];exact hD⟩
theorem ObjRep.mono {P:Program}{D D':Dom}{w w':World}{ow ow':Own}{μ μ':Nat->Nat}{k:Nat}{b:BX} (h:ObjRep P D w ow μ k b) (hd:∀ x o,D x o->D' x o) (hk:Keeps D w w') (hμ:b.fix≠[]->μ' k=μ k)
 (hs:∀ c,ow c=some k->w'.heap[c]?=w.heap[c]?/\ow' c=some k/\∀ o,D' c o->D c o):ObjRep P D' w' ow' μ' k b:=by
 cases b with
 | iter s p=>
  obtain ⟨h1,h2,h3⟩:=h
  obtain ⟨q1,q2,q3⟩:=hs _ h2
  exact IterRep.mono ⟨h1,h2,h3⟩ (hμ (by simp [BX.fix])) q1 q2 (fun o d=>h3 o (q3 o d))
 | bld T bs=>
  obtain ⟨p,v,h1,h2,h3,h4,h5⟩:=h
  obtain ⟨q1,q2,q3⟩:=hs _ h3
  have e:=hμ (by simp [BX.fix])
  refine ⟨p,v,by rw [e,q1];exact h1,by rw [e];exact h2,by rw [e];exact q2,fun o d=>by rw [e] at d;exact h4 o (q3 o d),?_⟩
  rcases h5 with h5 | ⟨g,cap,cur,fz,a1,a2,a4,a5,a6,a7,a8,a9,a10,a11⟩
  ·exact Or.inl h5
  ·obtain ⟨r1,r2,r3⟩:=hs _ a10
   exact Or.inr ⟨g,cap,cur,fz,a1,by rw [r1];exact a2,a4,a5,a6,a7,a8,by rw [e];exact a9,r2,fun o d=>a11 o (r3 o d)⟩
 | arr E g xs=>
  rcases h with h | ⟨cur,h1,h2,h3,h4,h5⟩
  ·exact Or.inl h
  ·obtain ⟨q1,q2,q3⟩:=hs _ h2
   have e:=hμ (by simp [BX.fix])
   exact Or.inr ⟨cur,by rw [e,q1];exact h1,by rw [e];exact q2,fun o d=>by rw [e] at d;exact h3 o (q3 o d),h4,fun i x hx=>(h5 i x hx).mono hd hk⟩
 | mit K E cu es=>
  obtain ⟨h1,h2,m,since,c0,seen,h3,h4,h5⟩:=h
  obtain ⟨q1,q2,q3⟩:=hs _ h2
  have e:=hμ (by simp [BX.fix])
  refine ⟨fun o d=>by rw [e] at d;exact h1 o (q3 o d),by rw [e];exact q2,m,since,c0,seen,by rw [e,q1];exact h3,?_,fun e he=>(h5 e he).mono hd hk⟩
  rcases h4 with h4 | ⟨r,clock,ents,kc,vc,a1,a2,a3,a4,a5,a6,a7,a8,a9,a10⟩
  ·exact Or.inl h4
  ·exact Or.inr ⟨r,clock,ents,kc,vc,a1,hd _ _ a2,hk.map _ _ a2 _ _ a3,a4,a5,a6,a7,fun i x hx=>(a8 i x hx).mono hd hk,fun i x hx=>(a9 i x hx).mono hd hk,a10⟩
 | _=>trivial
theorem WRel.drawn {Γ:Ctx}{D:Dom}{ow:Own}{μ:Nat->Nat}{st:List BX}{w:World} (h:WRel Γ D ow μ st w) (n:Nat):WRel Γ D ow μ st { w with drawn:=n }/\Moves D w ow μ st D { w with drawn:=n } ow μ st:=by
 have m:Moves D w ow μ st D { w with drawn:=n } ow μ st:=
  ⟨fun _ _ d=>d,Keeps.of_heap fun _ _ _=>rfl,fun _ _ _ e=>⟨rfl,_,e⟩,fun _ _ _ _ e=>⟨rfl,_,e⟩,fun _ _ e _=>⟨rfl,_,e,rfl⟩,fun _ _ _ _ e=>⟨_,_,e,Nat.le_refl _,fun _=>⟨rfl,fun cur hc ho=>⟨rfl,ho,cur,hc,rfl⟩⟩⟩,fun _ _ e=>⟨_,e,Nat.le_refl _,fun _ _ o=>⟨rfl,o,fun _ d=>d⟩⟩⟩
 refine ⟨⟨fun k T s e=>?_,fun k K E es e=>?_,fun k b e=>(h.obj k b e).mono m.dom m.keeps (fun _=>rfl) (fun _ o=>⟨rfl,o,fun _ d=>d⟩),h.owlt,h.dlt,h.os,h.tape,h.output,h.hs,h.old,h.dom0,h.domN,h.owN,h.np,h.mu0,h.par,h.lone,h.keep0.trans m.keeps h.dom0,h.arr0_moves m h.par⟩,m⟩
 ·obtain ⟨c,T',h1,h2,h3,h4,h5⟩:=h.box k T s e
  exact ⟨c,T',h1,h2,h3,h4,h5.mono m⟩
 ·exact (h.map k K E es e).mono m.dom m.keeps rfl rfl (by obtain ⟨_,_,_,_,_,h2,_⟩:=h.map k K E es e;exact h2) (by obtain ⟨_,_,_,_,_,_,h3,_⟩:=h.map k K E es e;exact h3)
structure Grew (w w':World):Prop where
 heap:∀ b,b<w.heap.size->w'.heap[b]?=w.heap[b]?
 size:w.heap.size<=w'.heap.size
 os:w'.os=w.os
 tape:w'.tape=w.tape
 output:w'.output=w.output
theorem Grew.alloc (w:World) (o:Obj):Grew w (w.alloc o):=⟨fun b h=>abn w o b h,by simp,rfl,rfl,rfl⟩
theorem Grew.trans {a b c:World} (h:Grew a b) (k:Grew b c):Grew a c:=
 ⟨fun x hx=>(k.heap x (Nat.lt_of_lt_of_le hx h.size)).trans (h.heap x hx),Nat.le_trans h.size k.size,k.os.trans h.os,k.tape.trans h.tape,k.output.trans h.output⟩
theorem Grew.drawn (w:World) (n:Nat):Grew w { w with drawn:=n }:=⟨fun _ _=>rfl,Nat.le_refl _,rfl,rfl,rfl⟩
theorem WRel.grew {Γ:Ctx}{D D':Dom}{ow:Own}{μ:Nat->Nat}{st:List BX}{w w':World} (h:WRel Γ D ow μ st w) (g:Grew w w') (hD:∀ b o,D b o->D' b o) (hN:∀ b o,D' b o->D b o∨(w.heap.size<=b/\b<w'.heap.size)):
 WRel Γ D' ow μ st w'/\Moves D w ow μ st D' w' ow μ st:=by
 have noD:∀ b k,ow b=some k->∀ o,D' b o->D b o:=fun b k ho o d=>(hN b o d).resolve_right (fun hh=>by have:=(h.owlt b k ho).1;omega)
 have m:Moves D w ow μ st D' w' ow μ st:=
  ⟨hD,Keeps.of_heap fun b o d=>g.heap b (h.dlt b o d),fun _ _ _ e=>⟨rfl,_,e⟩,fun _ _ _ _ e=>⟨rfl,_,e⟩,fun _ _ e _=>⟨rfl,_,e,rfl⟩,fun k _ _ _ e=>⟨_,_,e,Nat.le_refl _,fun _=>⟨rfl,fun cur hc ho=>⟨rfl,ho,cur,(g.heap _ (h.owlt _ k ho).1).trans hc,rfl⟩⟩⟩,fun k g0 e=>⟨_,e,Nat.le_refl _,fun _ b o=>⟨g.heap b (h.owlt b k o).1,o,noD b k o⟩⟩⟩
 refine ⟨⟨fun k T s e=>?_,fun k K E es e=>?_,fun k b e=>(h.obj k b e).mono m.dom m.keeps (fun _=>rfl) (fun c o=>⟨g.heap c (h.owlt c k o).1,o,noD c k o⟩),fun b k o=>⟨Nat.lt_of_lt_of_le (h.owlt b k o).1 g.size,(h.owlt b k o).2⟩,fun b o d=>?_,g.os.trans h.os,g.tape.trans h.tape,g.output.trans h.output,Nat.le_trans h.hs g.size,
  fun b hb hn=>(g.heap b (Nat.lt_of_lt_of_le hb h.hs)).trans (h.old b hb hn),fun b o d=>hD b o (h.dom0 b o d),fun b o d=>?_,h.owN,h.np,h.mu0,h.par,fun b k x ob e hx o d=>h.lone b k x ob e hx o (noD b k ob o d),h.keep0.trans m.keeps h.dom0,h.arr0_moves m h.par⟩,m⟩
 ·obtain ⟨c,T',h1,h2,h3,h4,h5⟩:=h.box k T s e
  exact BoxRep.mono ⟨c,T',h1,h2,h3,h4,h5⟩ m rfl (g.heap _ (h.owlt _ _ h3).1) h3 (fun o d=>h4 o (noD _ _ h3 o d))
 ·obtain ⟨ents,clock,kc,vc,h1,h2,h3,h4⟩:=h.map k K E es e
  exact OMapRep.mono ⟨ents,clock,kc,vc,h1,h2,h3,h4⟩ m.dom m.keeps rfl (g.heap _ (h.owlt _ _ h2).1) h2 (fun o d=>h3 o (noD _ _ h2 o d))
 ·rcases hN b o d with d | ⟨_,d⟩
  ·exact Nat.lt_of_lt_of_le (h.dlt b o d) g.size
  ·exact d
 ·rcases hN b o d with d | ⟨d,_⟩
  ·exact h.domN b o d
  ·exact Or.inr (Or.inl (Nat.le_trans h.hs d))
theorem WRel.pushHole {Γ:Ctx}{D:Dom}{ow:Own}{μ:Nat->Nat}{st:List BX}{w:World} (h:WRel Γ D ow μ st w):WRel Γ D ow μ (st++[.hole]) w/\Moves D w ow μ st D w ow μ (st++[.hole]):=by
 have olt:∀ {k:Nat}{y:BX},st[k]?=some y->k<st.length:=fun e=>(List.getElem?_eq_some_iff.1 e).1
 have oap:∀ {k:Nat}{y:BX},st[k]?=some y->(st++[BX.hole])[k]?=some y:=fun {k y} e=>by rw [List.getElem?_append_left (olt e)];exact e
 have back:∀ {k:Nat}{y:BX},(st++[BX.hole])[k]?=some y->y≠.hole->st[k]?=some y:=by
  intro k y e hy
  by_cases hk:k<st.length
  ·rwa [List.getElem?_append_left hk] at e
  ·have hk':k=st.length:=by have:=(List.getElem?_eq_some_iff.1 e).1;simp at this;omega
   subst hk'
   rw [List.getElem?_append_right (Nat.le_refl _)] at e
   simp at e
   exact absurd e.symm hy
 have m:Moves D w ow μ st D w ow μ (st++[.hole]):=
  ⟨fun _ _ d=>d,Keeps.refl _ _,fun k _ _ e=>⟨rfl,_,oap e⟩,fun k _ _ _ e=>⟨rfl,_,oap e⟩,fun k _ e _=>⟨rfl,_,oap e,rfl⟩,fun k _ _ _ e=>⟨_,_,oap e,Nat.le_refl _,fun _=>⟨rfl,ArrKeep.refl _ _ _ _ _⟩⟩,fun k g0 e=>⟨_,oap e,Nat.le_refl _,fun _ b ob=>⟨rfl,ob,fun _ d=>d⟩⟩⟩
 have par':∀ k,k<Γ.np->∃ b,(st++[BX.hole])[k]?=some b/\b.kind=Γ.K0 k:=fun k hk=>by obtain ⟨s,hs,h1⟩:=h.par k hk;exact ⟨s,oap hs,h1⟩
 refine ⟨⟨fun k T s e=>?_,fun k K E es e=>h.map k K E es (back e (by simp)),fun k b e=>?_,fun b k ob=>⟨(h.owlt b k ob).1,by have:=(h.owlt b k ob).2;simp;omega⟩,h.dlt,h.os,h.tape,h.output,h.hs,h.old,h.dom0,h.domN,h.owN,by have:=h.np;simp;omega,h.mu0,par',fun b k y ob e hy o d=>?_,h.keep0.trans m.keeps h.dom0,h.arr0_moves m par'⟩,m⟩
 ·obtain ⟨c,T1,q1,q2,q3,q4,q5⟩:=h.box k T s (back e (by simp))
  exact ⟨c,T1,q1,q2,q3,q4,q5.mono m⟩
 ·cases b with
  | hole=>trivial
  | _=>exact (h.obj k _ (back e (by simp))).mono m.dom m.keeps (fun _=>rfl) (fun _ o=>⟨rfl,o,fun _ d=>d⟩)
 ·have hlt:=(h.owlt b k ob).2
  rw [List.getElem?_append_left hlt] at e
  exact h.lone b k y ob e hy o d
theorem WRel.pushHoles {Γ:Ctx}{D:Dom}{ow:Own}{μ:Nat->Nat}{w:World}:∀ (n:Nat) {st:List BX},WRel Γ D ow μ st w->WRel Γ D ow μ (st++List.replicate n .hole) w/\∀ {s:SV}{v:Value},SRep Γ.P D w ow μ st s v->SRep Γ.P D w ow μ (st++List.replicate n .hole) s v:=by
 intro n
 induction n with
 | zero=>intro st h;exact ⟨by simpa using h,fun hs=>by simpa using hs⟩
 | succ n ih=>
  intro st h
  obtain ⟨h1,m⟩:=h.pushHole
  obtain ⟨h2,h3⟩:=ih h1
  have e:st++List.replicate (n+1) BX.hole=st++[.hole]++List.replicate n .hole:=by simp [List.replicate_succ]
  rw [e]
  exact ⟨h2,fun hs=>h3 (hs.mono m)⟩
def aov (np:Nat) (st:List BX) (k:Nat) (x:BX) (st':List BX):Prop:=(k=st.length/\st'=st++[x])∨(st[k]?=some .hole/\st'=st.set k x/\np<=k)
theorem WRel.newOwnAt {Γ:Ctx}{D:Dom}{ow:Own}{μ:Nat->Nat}{st st':List BX}{k0:Nat}{w:World} (h:WRel Γ D ow μ st w) (o:Obj) (x:BX)
 (hx:Moves D w ow μ st D (w.alloc o) (upd ow w.heap.size (some k0)) (upd μ k0 w.heap.size) st'->
  match x with
  | .box T s=>BoxRep Γ.P D (w.alloc o) (upd ow w.heap.size (some k0)) (upd μ k0 w.heap.size) st' k0 T s
  | .map K E es=>OMapRep Γ.P D (w.alloc o) (upd ow w.heap.size (some k0)) (upd μ k0 w.heap.size) k0 K E es
  | .iter s p=>ObjRep Γ.P D (w.alloc o) (upd ow w.heap.size (some k0)) (upd μ k0 w.heap.size) k0 (.iter s p)
  | .bld T bs=>ObjRep Γ.P D (w.alloc o) (upd ow w.heap.size (some k0)) (upd μ k0 w.heap.size) k0 (.bld T bs)
  | .arr E g xs=>ObjRep Γ.P D (w.alloc o) (upd ow w.heap.size (some k0)) (upd μ k0 w.heap.size) k0 (.arr E g xs)
  | .mit K E c es=>ObjRep Γ.P D (w.alloc o) (upd ow w.heap.size (some k0)) (upd μ k0 w.heap.size) k0 (.mit K E c es)
  | .acc _=>True
  | .hole=>True) (hst:aov Γ.np st k0 x st'):
 st'[k0]?=some x/\WRel Γ D (upd ow w.heap.size (some k0)) (upd μ k0 w.heap.size) st' (w.alloc o)/\
  Moves D w ow μ st D (w.alloc o) (upd ow w.heap.size (some k0)) (upd μ k0 w.heap.size) st':=by
 have g:=Grew.alloc w o
 have olt:∀ {k:Nat}{y:BX},st[k]?=some y->k<st.length:=fun e=>(List.getElem?_eq_some_iff.1 e).1
 have oap:∀ {k:Nat}{y:BX},st[k]?=some y->y≠.hole->st'[k]?=some y/\k≠k0:=by
  intro k y e hy
  rcases hst with ⟨rfl,rfl⟩ | ⟨h1,rfl,_⟩
  ·have:=olt e
   exact ⟨by rw [List.getElem?_append_left this];exact e,by omega⟩
  ·have hne:k≠k0:=fun hh=>by subst hh;rw [h1] at e;cases e;exact hy rfl
   exact ⟨by rw [List.getElem?_set_ne (by omega)];exact e,hne⟩
 have atk:st'[k0]?=some x:=by
  rcases hst with ⟨rfl,rfl⟩ | ⟨h1,rfl,_⟩
  ·rw [List.getElem?_append_right (Nat.le_refl _)];simp
  ·rw [List.getElem?_set_self (olt h1)]
 have back:∀ {k:Nat}{y:BX},st'[k]?=some y->k≠k0->st[k]?=some y:=by
  intro k y e hk
  rcases hst with ⟨rfl,rfl⟩ | ⟨h1,rfl,_⟩
  ·by_cases hlt:k<st.length
   ·rwa [List.getElem?_append_left hlt] at e
   ·have:=(List.getElem?_eq_some_iff.1 e).1;simp at this;omega
  ·rwa [List.getElem?_set_ne (by omega)] at e
 have len:st.length<=st'.length/\k0<st'.length:=by
  rcases hst with ⟨rfl,rfl⟩ | ⟨h1,rfl,_⟩
  ·simp
  ·have:=olt h1;simpa using this
 have npk:Γ.np<=k0:=by
  rcases hst with ⟨rfl,rfl⟩ | ⟨h1,rfl,h2⟩
  ·exact h.np
  ·exact h2
 have hlone:∀ b,ow b=some k0->∀ o,¬D b o:=by
  intro b ob o d
  rcases hst with ⟨rfl,rfl⟩ | ⟨h1,rfl,h2⟩
  ·have:=(h.owlt b _ ob).2;omega
  ·exact h.lone b k0 _ ob h1 (by simp) o d
 have m:Moves D w ow μ st D (w.alloc o) (upd ow w.heap.size (some k0)) (upd μ k0 w.heap.size) st':=by
  refine ⟨fun _ _ d=>d,Keeps.of_heap fun b o d=>g.heap b (h.dlt b o d),fun k _ _ e=>⟨aal _ _ (oap e (by simp)).2,_,(oap e (by simp)).1⟩,fun k _ _ _ e=>⟨aal _ _ (oap e (by simp)).2,_,(oap e (by simp)).1⟩,
   fun k b e hs=>?_,fun k E g1 xs e=>⟨g1,xs,(oap e (by simp)).1,Nat.le_refl _,fun _=>⟨rfl,fun cur hc ho=>?_⟩⟩,fun k g0 e=>⟨_,(oap e (by simp)).1,Nat.le_refl _,fun _ b ob=>⟨g.heap b (h.owlt b k ob).1,?_,fun _ d=>d⟩⟩⟩
  ·have hy:b≠.hole:=fun hh=>by subst hh;exact hs rfl
   exact ⟨aal _ _ (oap e hy).2,_,(oap e hy).1,rfl⟩
  ·have hlt:=(h.owlt _ k ho).1
   exact ⟨aal _ _ (oap e (by simp)).2,by rw [aal _ _ (by omega)];exact ho,cur,(g.heap _ hlt).trans hc,rfl⟩
  ·rw [aal _ _ (by have:=(h.owlt b k ob).1;omega)];exact ob
 have hx:=hx m
 have par':∀ k,k<Γ.np->∃ b,st'[k]?=some b/\b.kind=Γ.K0 k:=by
  intro k hk
  obtain ⟨s,hs,h1⟩:=h.par k hk
  rcases hst with ⟨rfl,rfl⟩ | ⟨q1,rfl,q2⟩
  ·exact ⟨s,by rw [List.getElem?_append_left (olt hs)];exact hs,h1⟩
  ·exact ⟨s,by rw [List.getElem?_set_ne (by omega)];exact hs,h1⟩
 refine ⟨atk,⟨fun k T s e=>?_,fun k K E es e=>?_,fun k b e=>?_,fun b k ob=>?_,fun b o d=>Nat.lt_of_lt_of_le (h.dlt b o d) g.size,h.os,h.tape,h.output,Nat.le_trans h.hs g.size,fun b hb hn=>(g.heap b (Nat.lt_of_lt_of_le hb h.hs)).trans (h.old b hb hn),h.dom0,h.domN,
  fun b k ob hb=>?_,Nat.le_trans h.np len.1,fun k hk hK=>?_,par',fun b k y ob e hy o d=>?_,h.keep0.trans m.keeps h.dom0,h.arr0_moves m par'⟩,m⟩
 ·by_cases hk:k=k0
  ·subst hk
   rw [atk] at e;cases e
   exact hx
  ·obtain ⟨c,T',h1,h2,h3,h4,h5⟩:=h.box k T s (back e hk)
   have hlt:=(h.owlt _ _ h3).1
   exact BoxRep.mono ⟨c,T',h1,h2,h3,h4,h5⟩ m (aal _ _ hk) (g.heap _ hlt) (by rw [aal _ _ (by omega)];exact h3) h4
 ·by_cases hk:k=k0
  ·subst hk
   rw [atk] at e;cases e
   exact hx
  ·obtain ⟨ents,clock,kc,vc,h1,h2,h3,h4⟩:=h.map k K E es (back e hk)
   have hlt:=(h.owlt _ _ h2).1
   exact OMapRep.mono ⟨ents,clock,kc,vc,h1,h2,h3,h4⟩ m.dom m.keeps (aal _ _ hk) (g.heap _ hlt) (by rw [aal _ _ (by omega)];exact h2) h3
 ·by_cases hk:k=k0
  ·subst hk
   rw [atk] at e;cases e
   cases x<;>first | exact hx | trivial
  ·refine (h.obj k b (back e hk)).mono m.dom m.keeps (fun _=>aal _ _ hk) (fun c oc=>?_)
   have hlt:=(h.owlt c k oc).1
   exact ⟨g.heap _ hlt,by rw [aal _ _ (by omega)];exact oc,fun _ d=>d⟩
 ·by_cases hb:b=w.heap.size
  ·subst hb
   rw [aae] at ob
   cases ob
   exact ⟨by simp,len.2⟩
  ·rw [aal _ _ hb] at ob
   have:=h.owlt b k ob
   have:=g.size
   exact ⟨by omega,by omega⟩
 ·have hb':b≠w.heap.size:=by have:=h.hs;omega
  rw [aal _ _ hb'] at ob
  exact h.owN b k ob hb
 ·rw [aal _ _ (by omega)]
  exact h.mu0 k hk hK
 ·by_cases hb:b=w.heap.size
  ·have:=h.dlt b o d;omega
  ·rw [aal _ _ hb] at ob
   by_cases hk:k=k0
   ·subst hk;exact hlone b ob o d
   ·exact h.lone b k y ob (back e hk) hy o d
theorem WRel.newOwn {Γ:Ctx}{D:Dom}{ow:Own}{μ:Nat->Nat}{st:List BX}{w:World} (h:WRel Γ D ow μ st w) (o:Obj) (x:BX)
 (hx:Moves D w ow μ st D (w.alloc o) (upd ow w.heap.size (some st.length)) (upd μ st.length w.heap.size) (st++[x])->
  match x with
  | .box T s=>BoxRep Γ.P D (w.alloc o) (upd ow w.heap.size (some st.length)) (upd μ st.length w.heap.size) (st++[x]) st.length T s
  | .map K E es=>OMapRep Γ.P D (w.alloc o) (upd ow w.heap.size (some st.length)) (upd μ st.length w.heap.size) st.length K E es
  | .iter s p=>ObjRep Γ.P D (w.alloc o) (upd ow w.heap.size (some st.length)) (upd μ st.length w.heap.size) st.length (.iter s p)
  | .bld T bs=>ObjRep Γ.P D (w.alloc o) (upd ow w.heap.size (some st.length)) (upd μ st.length w.heap.size) st.length (.bld T bs)
  | .arr E g xs=>ObjRep Γ.P D (w.alloc o) (upd ow w.heap.size (some st.length)) (upd μ st.length w.heap.size) st.length (.arr E g xs)
  | .mit K E c es=>ObjRep Γ.P D (w.alloc o) (upd ow w.heap.size (some st.length)) (upd μ st.length w.heap.size) st.length (.mit K E c es)
  | .acc _=>True
  | .hole=>True):
 WRel Γ D (upd ow w.heap.size (some st.length)) (upd μ st.length w.heap.size) (st++[x]) (w.alloc o)/\
  Moves D w ow μ st D (w.alloc o) (upd ow w.heap.size (some st.length)) (upd μ st.length w.heap.size) (st++[x]):=
 (h.newOwnAt o x hx (Or.inl ⟨rfl,rfl⟩)).2
end Go.Ab
