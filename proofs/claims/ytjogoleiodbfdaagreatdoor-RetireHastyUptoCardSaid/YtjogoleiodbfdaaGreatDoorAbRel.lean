/- The relation of the evaluator's state to the model's, and how it is kept. -/
import Derived.Test.YtjogoleiodbfdaaGreatDoorAbOps
import Derived.Laws.IdiomRangeMap
set_option linter.unusedVariables false
set_option linter.unusedSimpArgs false
set_option linter.unnecessarySimpa false
namespace Go.Ab
open Go
structure Ctx where
 P:Program
 n:Nat
 B:Nat
 w0:World
 D0:Dom
 ow0:Own
 np:Nat
 μ0:Nat->Nat
 K0:Nat->List Nat
 L0:Nat->Nat
 hB:B=w0.heap.size
 tabs:Tabs P ow0 w0
def BoxRep (P:Program) (D:Dom) (w:World) (ow:Own) (μ:Nat->Nat) (st:List BX) (k:Nat) (T:TypeId) (s:SV):Prop:=
 ∃ (h:List Value) (H:TypeId),w.heap[μ k]?=some (.cells h.toArray H (0,0))/\h.length=P.cellsOf T/\ow (μ k)=some k/\(∀ o,¬D (μ k) o)/\SRep P D w ow μ st s (pack P T h)
def AtIdx (ents:Array MapEntry) (clock:Nat):Prop:=clock=ents.size/\∀ (i:Nat) (e:MapEntry),ents[i]?=some e->e.born=i
theorem AtIdx.nil:AtIdx #[] 0:=⟨rfl,λi e h=>by simp at h⟩
theorem AtIdx.push {ents:Array MapEntry}{clock:Nat} (h:AtIdx ents clock) (e:MapEntry) (H:e.born=clock):AtIdx (ents.push e) (clock+1):=by
 refine ⟨by rw [h.1];simp,λi x o=>?_⟩;rw [Array.getElem?_push] at o;split at o
 ·rename_i I;cases o;rw [H,h.1,I]
 ·exact h.2 i x o
theorem AtIdx.same {ents o:Array MapEntry}{clock:Nat} (h:AtIdx ents clock) (J:o.size=ents.size) (M:∀ (i:Nat) (x:MapEntry),o[i]?=some x->∃ y,ents[i]?=some y/\y.born=x.born):AtIdx o clock:=by refine ⟨by rw [J];exact h.1,λi x O=>?_⟩;obtain ⟨y,H,I⟩:=M i x O;rw [<-I];exact h.2 i y H
def OMapRep (P:Program) (D:Dom) (w:World) (ow:Own) (μ:Nat->Nat) (k:Nat) (K E:TypeId) (es:List (PV×PV)):Prop:=
 ∃ (ents:Array MapEntry) (clock:Nat) (kc vc:Nat->List Value),w.heap[μ k]?=some (.map ents clock)/\ow (μ k)=some k/\(∀ o,¬D (μ k) o)/\ents.size=es.length/\
  (∀ (i:Nat) (x:PV×PV),es[i]?=some x->Rep P D w K x.1 (kc i))/\(∀ (i:Nat) (x:PV×PV),es[i]?=some x->Rep P D w E x.2 (vc i))/\
  avi P K E kc vc ents clock/\AtIdx ents clock
def IterRep (D:Dom) (w:World) (ow:Own) (μ:Nat->Nat) (k:Nat) (s:Bt) (p:Nat):Prop:=
 w.heap[μ k]?=some (.stringIter ⟨s.toArray⟩ p)/\ow (μ k)=some k/\(∀ o,¬D (μ k) o)
def aka (P:Program):Nat->TypeId->TypeId
 | 0,_=>0
 | n+1,T=>
  match P.underlying T with
  | some (.struct h)=>
   match h.toList with
   | [f]=>aka P n f.type
   | [_,g]=>(match P.underlying g.type with | some (.slice e)=>e | _=>0)
   | _=>0
  | _=>0
def BldRep (P:Program) (D:Dom) (w:World) (ow:Own) (μ:Nat->Nat) (k:Nat) (T:TypeId) (bs:Bt):Prop:=
 ∃ p v,w.heap[μ k]?=some (.cells #[p,v] T (0,0))/\(p=.pointer none\/p=.pointer (some ⟨μ k,0,none⟩))/\ow (μ k)=some k/\(∀ o,¬D (μ k) o)/\
  ((
   v=.slice none 0 0/\bs=[])\/∃ g cap h fz,v=.slice (some ⟨g,0,none⟩) bs.length cap/\w.heap[g]?=some (.cells h (aka P 3 T) fz)/\fz.2<=bs.length/\bs.length<=cap/\cap<=maxLen/\h.size=cap/\
   h.toList.take bs.length=bs.map (λb=>Value.int .u8 b.toNat)/\g≠μ k/\ow g=some k/\∀ o,¬D g o)
def avh (P:Program) (D:Dom) (w:World) (ow:Own) (μ:Nat->Nat) (k:Nat) (E:TypeId) (xs:List PV):Prop:=
 xs=[]\/∃ h:Array Value,w.heap[μ k]?=some (.cells h E (0,0))/\ow (μ k)=some k/\(∀ o,¬D (μ k) o)/\xs.length*P.cellsOf E<=h.size/\
  ∀ (i:Nat) (x:PV),xs[i]?=some x->Rep P D w E x ((h.toList.drop (i*P.cellsOf E)).take (P.cellsOf E))
def CurRep (P:Program) (D:Dom) (w:World) (m:Option Nat) (H:Nat) (o:Array Nat) (K E:TypeId) (e:PV×PV):Prop:=
 ∃ (r:Nat) (ents:Array MapEntry) (h:MapEntry) (kc vc:List Value),m=some r/\D r 0/\w.heap[r]?=some (.map ents H)/\o.back?=some h.born/\ents.find? (λx=>x.born==h.born)=some h/\
  Rep P D w K e.1 kc/\Rep P D w E e.2 vc/\h.key=pack P K kc/\h.val=pack P E vc
theorem CurRep.mono {P:Program}{D D':Dom}{w w':World}{m:Option Nat}{Z:Nat}{H:Array Nat}{K E:TypeId}{e:PV×PV} (h:CurRep P D w m Z H K E e) (J:∀ x o,D x o->D' x o) (M:Keeps D w w'):CurRep P D' w' m Z H K E e:=by obtain ⟨r,ents,I,kc,vc,a1,O,a3,a4,a5,a6,a7,a8,a9⟩:=h;exact ⟨r,ents,I,kc,vc,a1,J _ _ O,M.map _ _ O _ _ a3,a4,a5,a6.mono J M,a7.mono J M,a8,a9⟩
def avm (P:Program) (D:Dom) (w:World) (ow:Own) (μ:Nat->Nat) (k:Nat) (K E:TypeId) (c:Option (PV×PV)) (es:List (PV×PV)):Prop:=
 (∀ o,¬D (μ k) o)/\ow (μ k)=some k/\∃ (m:Option Nat) (H I:Nat) (h:Array Nat),w.heap[μ k]?=some (.mapIter m H h I)/\
  ((
   m=none/\es=[])\/∃ (r clock:Nat) (ents:Array MapEntry) (kc vc:Nat->List Value),m=some r/\D r 0/\w.heap[r]?=some (.map ents clock)/\H=clock/\clock<=I/\BornOk ents clock/\(leftOf ents h).size=es.length/\
   (∀ (i:Nat) (x:PV×PV),es[i]?=some x->Rep P D w K x.1 (kc i))/\(∀ (i:Nat) (x:PV×PV),es[i]?=some x->Rep P D w E x.2 (vc i))/\
   ∀ (i:Nat) (e:MapEntry),(leftOf ents h)[i]?=some e->e.key=pack P K (kc i)/\e.val=pack P E (vc i))/\
  ∀ e,c=some e->CurRep P D w m I h K E e
def ObjRep (P:Program) (D:Dom) (w:World) (ow:Own) (μ:Nat->Nat) (k:Nat):BX->Prop
 | .iter s p=>IterRep D w ow μ k s p
 | .bld T bs=>BldRep P D w ow μ k T bs
 | .arr E _ xs=>avh P D w ow μ k E xs
 | .mit K E c es=>avm P D w ow μ k K E c es
 | _=>True
structure WRel (Γ:Ctx) (D:Dom) (ow:Own) (μ:Nat->Nat) (st:List BX) (w:World):Prop where
 box:∀ (k:Nat) (T:TypeId) (s:SV),st[k]?=some (.box T s)->BoxRep Γ.P D w ow μ st k T s
 map:∀ (k:Nat) (K E:TypeId) (es:List (PV×PV)),st[k]?=some (.map K E es)->OMapRep Γ.P D w ow μ k K E es
 obj:∀ (k:Nat) (b:BX),st[k]?=some b->ObjRep Γ.P D w ow μ k b
 owlt:∀ b k,ow b=some k->b<w.heap.size/\k<st.length
 dlt:∀ b o,D b o->b<w.heap.size
 os:w.os=Γ.w0.os
 tape:w.tape=Γ.w0.tape
 output:w.output=Γ.w0.output
 hs:Γ.B<=w.heap.size
 old:∀ b,b<Γ.B->Γ.ow0 b=none->w.heap[b]?=Γ.w0.heap[b]?
 dom0:∀ b o,Γ.D0 b o->D b o
 domN:∀ b o,D b o->Γ.D0 b o\/Γ.B<=b\/Γ.ow0 b≠none
 owN:∀ b k,ow b=some k->b<Γ.B->Γ.ow0 b=some k
 np:Γ.np<=st.length
 mu0:∀ k,k<Γ.np->(∀ E,Γ.K0 k≠[3,E])->μ k=Γ.μ0 k
 par:∀ k,k<Γ.np->∃ b,st[k]?=some b/\b.kind=Γ.K0 k
 lone:∀ (b k:Nat) (x:BX),ow b=some k->st[k]?=some x->(∀ g,x≠.acc g)->∀ o,¬D b o
 keep0:Keeps Γ.D0 Γ.w0 w
 arr0:∀ k,k<Γ.np->∀ E xs,st[k]?=some (.arr E 0 xs)->xs.length=Γ.L0 k/\ArrKeep Γ.w0 Γ.ow0 Γ.μ0 w ow μ k E
theorem ah2 {b:BX}{E:TypeId} (h:b.kind=[3,E]):∃ g xs,b=.arr E g xs:=by cases b<;>simp [BX.kind] at h;simp_all
theorem WRel.arr0_moves {Γ:Ctx}{D D':Dom}{ow H:Own}{μ I:Nat->Nat}{st st':List BX}{w w':World} (h:WRel Γ D ow μ st w) (m:Moves D w ow μ st D' w' H I st') (hp:∀ k,k<Γ.np->∃ b,st'[k]?=some b/\b.kind=Γ.K0 k):
 ∀ k,k<Γ.np->∀ E xs,st'[k]?=some (.arr E 0 xs)->xs.length=Γ.L0 k/\ArrKeep Γ.w0 Γ.ow0 Γ.μ0 w' H I k E:=by
 intro k J E xs e
 obtain ⟨b,O,p1⟩:=h.par k J
 obtain ⟨b',o,p2⟩:=hp k J
 rw [e] at o;cases o
 obtain ⟨g,ys,rfl⟩:=ah2 (p1.trans p2.symm)
 obtain ⟨g',xs',M,h2,Z⟩:=m.arr k E g ys O
 rw [e] at M;cases M
 have hg:g=0:=by omega
 subst hg
 obtain ⟨h4,h5⟩:=Z rfl
 obtain ⟨h6,h7⟩:=h.arr0 k J E ys O
 exact ⟨h4.trans h6,h7.trans h5⟩
def SlotRep (P:Program) (D:Dom) (w:World) (ow:Own) (μ:Nat->Nat) (st:List BX) (a:Act) (s:SV) (v:Value):Prop:=
 match s with
 | .gd t h x=>(a.tmps.getD t Go.undef=.bool h->SRep P D w ow μ st x v)/\(a.tmps.getD t Go.undef≠.bool h->v=Go.undef)
 | s=>SRep P D w ow μ st s v
structure Slots (Γ:Ctx) (D:Dom) (ow:Own) (μ:Nat->Nat) (e:Env) (st:List BX) (a:Act) (w:World):Prop where
 size:a.tmps.size=Γ.n
 defers:a.defers=[]
 slot:∀ t,SlotRep Γ.P D w ow μ st a (e t) (a.tmps.getD t Go.undef)
def Rel (Γ:Ctx) (e:Env) (st:List BX) (a:Act) (w:World):Prop:=
 ∃ D ow μ,WRel Γ D ow μ st w/\Slots Γ D ow μ e st a w
theorem SlotRep.mono {P:Program}{D D':Dom}{w w':World}{ow o:Own}{μ H:Nat->Nat}{st st':List BX}{a:Act}{s:SV}{v:Value} (h:SlotRep P D w ow μ st a s v) (m:Moves D w ow μ st D' w' o H st'):SlotRep P D' w' o H st' a s v:=by
 cases s with
 | gd t I x=>exact ⟨λe=>(h.1 e).mono m,h.2⟩
 | _=>exact SRep.mono h m
theorem SRep.slot {P:Program}{D:Dom}{w:World}{ow:Own}{μ:Nat->Nat}{st:List BX}{a:Act}{s:SV}{v:Value} (h:SRep P D w ow μ st s v):SlotRep P D w ow μ st a s v:=by
 cases s with
 | gd t o x=>cases h
 | _=>exact h
theorem Act.getD_put (a:Act) (d t:Nat) (v:Value) (h:d<a.tmps.size):(a.put (some d) v).tmps.getD t Go.undef=if t=d then v else a.tmps.getD t Go.undef:=by
 have e:∀ (x:Array Value),x.getD t Go.undef=(x[t]?).getD Go.undef:=λx=>by simp
 rw [e,e];show ((a.tmps.setIfInBounds d v)[t]?).getD Go.undef=_;grind
theorem Slots.mono {Γ:Ctx}{D D':Dom}{w w':World}{ow o:Own}{μ H:Nat->Nat}{e:Env}{st st':List BX}{a:Act} (h:Slots Γ D ow μ e st a w) (m:Moves D w ow μ st D' w' o H st'):Slots Γ D' o H e st' a w':=
 ⟨h.size,h.defers,λt=>(h.slot t).mono m⟩
def awz (e:Env) (d:Nat):Prop:=∀ t u h x,e t=.gd u h x->u≠d
theorem Slots.put {Γ:Ctx}{D:Dom}{w:World}{ow:Own}{μ:Nat->Nat}{e:Env}{st:List BX}{a:Act} (h:Slots Γ D ow μ e st a w) (d:Option Nat) (s:SV) (v:Value)
 (hd:∀ x,d=some x->x<Γ.n/\awz e x) (hs:SlotRep Γ.P D w ow μ st a s v) (hg:∀ t o x,s=.gd t o x->d≠some t):Slots Γ D ow μ (Ab.put e d s) st (a.put d v) w:=by
 cases d with
 | none=>exact h
 | some d=>
  obtain ⟨M,hc⟩:=hd d rfl
  have I:d<a.tmps.size:=by rw [h.size];exact M
  refine ⟨by simp [Act.put,h.size],h.defers,λt=>?_⟩
  rw [Act.getD_put a d t v I]
  show SlotRep Γ.P D w ow μ st _ (Env.set e d s t) _
  unfold Env.set
  by_cases Z:t=d
  ·subst Z;simp only [Bi,Af,A9];cases s with
   | gd u o x=>
    have O:u≠t:=λhh=>hg u o x rfl (by rw [hh]);have e1:(a.put (some t) v).tmps.getD u Go.undef=a.tmps.getD u Go.undef:=by rw [Act.getD_put a t u v I,if_neg O]
    grind [SlotRep]
   | _=>exact hs
  ·have e0:Nat.beq t d=false:=by
    grind [Nat.beq,absurd,Nat.eq_of_beq_eq_true]
   simp only [e0,Ah,if_neg Z];have H:=h.slot t;cases J:e t with
   | gd u o x=>
    rw [J] at H;have O:u≠d:=hc t u o x J;have e1:(a.put (some d) v).tmps.getD u Go.undef=a.tmps.getD u Go.undef:=by rw [Act.getD_put a d u v I,if_neg O]
    grind [SlotRep]
   | _=>rw [J] at H;exact H
theorem aa6 (w:World) (o:Obj) (b:Nat) (h:b<w.heap.size):(w.alloc o).heap[b]?=w.heap[b]?:=by show (w.heap.push o)[b]?=_;grind
theorem aas (w:World) (o:Obj):(w.alloc o).heap[w.heap.size]?=some o:=by show (w.heap.push o)[w.heap.size]?=_;simp
theorem cell?_of_heap {w w':World}{b:Nat} (h:w'.heap[b]?=w.heap[b]?) (o:Nat):w'.cell? ⟨b,o,none⟩=w.cell? ⟨b,o,none⟩:=by grind [World.cell?]
theorem Keeps.of_heap {D:Dom}{w w':World} (h:∀ b o,D b o->w'.heap[b]?=w.heap[b]?):Keeps D w w':=
 ⟨λb o d=>cell?_of_heap (h b o d) o,λb o d es c e=>(h b o d).trans e⟩
def upd {h:Type} (f:Nat->h) (i:Nat) (x:h):Nat->h:=λj=>if j=i then x else f j
theorem aai {h:Type} (f:Nat->h) (i:Nat) (x:h):upd f i x i=x:=by simp [upd]
theorem aam {o:Type} (f:Nat->o) {i j:Nat} (x:o) (h:j≠i):upd f i x j=f j:=by simp [upd,h]
theorem BoxRep.mono {P:Program}{D D':Dom}{w w':World}{ow I:Own}{μ J:Nat->Nat}{st st':List BX}{k:Nat}{T:TypeId}{s:SV} (h:BoxRep P D w ow μ st k T s) (m:Moves D w ow μ st D' w' I J st')
 (aa:J k=μ k) (hh:w'.heap[μ k]?=w.heap[μ k]?) (ho:I (μ k)=some k) (hD:∀ o,¬D' (μ k) o):BoxRep P D' w' I J st' k T s:=by
 obtain ⟨H,M,h1,O,h3,h4,Z⟩:=h
 exact ⟨H,M,by grind,O,by grind,by grind,Z.mono m⟩
theorem OMapRep.mono {P:Program}{D D':Dom}{w w':World}{ow I:Own}{μ J:Nat->Nat}{k:Nat}{K E:TypeId}{es:List (PV×PV)} (h:OMapRep P D w ow μ k K E es) (M:∀ x o,D x o->D' x o) (O:Keeps D w w')
 (H:J k=μ k) (hh:w'.heap[μ k]?=w.heap[μ k]?) (ho:I (μ k)=some k) (hD:∀ o,¬D' (μ k) o):OMapRep P D' w' I J k K E es:=by
 obtain ⟨ents,clock,kc,vc,Z,h2,h3,h4,h5,h6,h7⟩:=h
 exact ⟨ents,clock,kc,vc,by rw [H,hh];exact Z,by rw [H];exact ho,by rw [H];exact hD,h4,λi x a=>(h5 i x a).mono M O,λi x a=>(h6 i x a).mono M O,h7⟩
theorem IterRep.mono {D D':Dom}{w w':World}{ow H:Own}{μ I:Nat->Nat}{k p:Nat}{s:Bt} (h:IterRep D w ow μ k s p) (J:I k=μ k) (M:w'.heap[μ k]?=w.heap[μ k]?) (Z:H (μ k)=some k) (O:∀ o,¬D' (μ k) o):IterRep D' w' H I k s p:=
 ⟨by rw [J,M];exact h.1,by grind,by grind⟩
theorem ObjRep.mono {P:Program}{D D':Dom}{w w':World}{ow ab:Own}{μ ae:Nat->Nat}{k:Nat}{b:BX} (h:ObjRep P D w ow μ k b) (hd:∀ x o,D x o->D' x o) (hk:Keeps D w w') (H:b.fix≠[]->ae k=μ k)
 (hs:∀ c,ow c=some k->w'.heap[c]?=w.heap[c]?/\ab c=some k/\∀ o,D' c o->D c o):ObjRep P D' w' ab ae k b:=by
 cases b with
 | iter s p=>
  obtain ⟨Z,I,J⟩:=h
  obtain ⟨q1,q2,q3⟩:=hs _ I
  exact IterRep.mono ⟨Z,I,J⟩ (H (by simp [BX.fix])) q1 q2 (λo d=>J o (q3 o d))
 | bld T bs=>
  obtain ⟨p,v,Z,I,J,h4,h5⟩:=h
  obtain ⟨q1,q2,q3⟩:=hs _ J
  have e:=H (by simp [BX.fix])
  refine ⟨p,v,by rw [e,q1];exact Z,by rw [e];exact I,by rw [e];exact q2,λo d=>by rw [e] at d;exact h4 o (q3 o d),?_⟩
  rcases h5 with h5 | ⟨g,cap,O,fz,a1,a2,a4,a5,a6,a7,a8,a9,M,af⟩
  ·exact Or.inl h5
  ·obtain ⟨r1,r2,r3⟩:=hs _ M;exact Or.inr ⟨g,cap,O,fz,a1,by rw [r1];exact a2,a4,a5,a6,a7,a8,by rw [e];exact a9,r2,λo d=>af o (r3 o d)⟩
 | arr E g xs=>
  rcases h with h | ⟨O,Z,I,J,h4,h5⟩
  ·exact Or.inl h
  ·obtain ⟨q1,q2,q3⟩:=hs _ I;have e:=H (by simp [BX.fix]);exact Or.inr ⟨O,by rw [e,q1];exact Z,by rw [e];exact q2,λo d=>by rw [e] at d;exact J o (q3 o d),h4,λi x hx=>(h5 i x hx).mono hd hk⟩
 | mit K E cu es=>
  obtain ⟨Z,I,m,aa,c0,ad,J,h4,h5⟩:=h
  obtain ⟨q1,q2,q3⟩:=hs _ I
  have e:=H (by simp [BX.fix])
  refine ⟨λo d=>by rw [e] at d;exact Z o (q3 o d),by rw [e];exact q2,m,aa,c0,ad,by rw [e,q1];exact J,?_,λe he=>(h5 e he).mono hd hk⟩
  rcases h4 with h4 | ⟨r,clock,ents,kc,vc,a1,a2,a3,a4,a5,a6,a7,a8,a9,M⟩
  ·exact Or.inl h4
  ·exact Or.inr ⟨r,clock,ents,kc,vc,a1,hd _ _ a2,hk.map _ _ a2 _ _ a3,a4,a5,a6,a7,λi x hx=>(a8 i x hx).mono hd hk,λi x hx=>(a9 i x hx).mono hd hk,M⟩
 | _=>trivial
theorem WRel.drawn {Γ:Ctx}{D:Dom}{ow:Own}{μ:Nat->Nat}{st:List BX}{w:World} (h:WRel Γ D ow μ st w) (n:Nat):WRel Γ D ow μ st { w with drawn:=n }/\Moves D w ow μ st D { w with drawn:=n } ow μ st:=by
 have m:Moves D w ow μ st D { w with drawn:=n } ow μ st:=
  ⟨λ_ _ d=>d,Keeps.of_heap λ_ _ _=>rfl,λ_ _ _ e=>⟨rfl,_,e⟩,λ_ _ _ _ e=>⟨rfl,_,e⟩,λ_ _ e _=>⟨rfl,_,e,rfl⟩,λ_ _ _ _ e=>⟨_,_,e,Nat.le_refl _,λ_=>⟨rfl,λH hc ho=>⟨rfl,ho,H,hc,rfl⟩⟩⟩,λ_ _ e=>⟨_,e,Nat.le_refl _,λ_ _ o=>⟨rfl,o,λ_ d=>d⟩⟩⟩
 refine ⟨⟨λk T s e=>?_,λk K E es e=>?_,λk b e=>(h.obj k b e).mono m.dom m.keeps (λ_=>rfl) (λ_ o=>⟨rfl,o,λ_ d=>d⟩),h.owlt,h.dlt,h.os,h.tape,h.output,h.hs,h.old,h.dom0,h.domN,h.owN,h.np,h.mu0,h.par,h.lone,h.keep0.trans m.keeps h.dom0,h.arr0_moves m h.par⟩,m⟩
 ·obtain ⟨c,M,O,I,J,Z,h5⟩:=h.box k T s e;exact ⟨c,M,O,I,J,Z,h5.mono m⟩
 ·exact (h.map k K E es e).mono m.dom m.keeps rfl rfl (by obtain ⟨_,_,_,_,_,I,_⟩:=h.map k K E es e;exact I) (by obtain ⟨_,_,_,_,_,_,J,_⟩:=h.map k K E es e;exact J)
structure Grew (w w':World):Prop where
 heap:∀ b,b<w.heap.size->w'.heap[b]?=w.heap[b]?
 size:w.heap.size<=w'.heap.size
 os:w'.os=w.os
 tape:w'.tape=w.tape
 output:w'.output=w.output
theorem Grew.alloc (w:World) (o:Obj):Grew w (w.alloc o):=⟨λb h=>aa6 w o b h,by simp,rfl,rfl,rfl⟩
theorem Grew.trans {a b c:World} (h:Grew a b) (k:Grew b c):Grew a c:=
 ⟨λx o=>(k.heap x (A4 o h.size)).trans (h.heap x o),Nat.le_trans h.size k.size,k.os.trans h.os,k.tape.trans h.tape,k.output.trans h.output⟩
theorem Grew.drawn (w:World) (n:Nat):Grew w { w with drawn:=n }:=⟨λ_ _=>rfl,Nat.le_refl _,rfl,rfl,rfl⟩
theorem WRel.grew {Γ:Ctx}{D D':Dom}{ow:Own}{μ:Nat->Nat}{st:List BX}{w w':World} (h:WRel Γ D ow μ st w) (g:Grew w w') (hD:∀ b o,D b o->D' b o) (hN:∀ b o,D' b o->D b o\/(w.heap.size<=b/\b<w'.heap.size)):
 WRel Γ D' ow μ st w'/\Moves D w ow μ st D' w' ow μ st:=by
 have H:∀ b k,ow b=some k->∀ o,D' b o->D b o:=λb k O o d=>(hN b o d).resolve_right (λhh=>by have:=(h.owlt b k O).1;omega)
 have m:Moves D w ow μ st D' w' ow μ st:=
  ⟨hD,Keeps.of_heap λb o d=>g.heap b (h.dlt b o d),λ_ _ _ e=>⟨rfl,_,e⟩,λ_ _ _ _ e=>⟨rfl,_,e⟩,λ_ _ e _=>⟨rfl,_,e,rfl⟩,λk _ _ _ e=>⟨_,_,e,Nat.le_refl _,λ_=>⟨rfl,λZ hc O=>⟨rfl,O,Z,(g.heap _ (h.owlt _ k O).1).trans hc,rfl⟩⟩⟩,λk g0 e=>⟨_,e,Nat.le_refl _,λ_ b o=>⟨g.heap b (h.owlt b k o).1,o,H b k o⟩⟩⟩
 refine ⟨⟨λk T s e=>?_,λk K E es e=>?_,λk b e=>(h.obj k b e).mono m.dom m.keeps (λ_=>rfl) (λc o=>⟨g.heap c (h.owlt c k o).1,o,H c k o⟩),λb k o=>⟨A4 (h.owlt b k o).1 g.size,(h.owlt b k o).2⟩,λb o d=>?_,g.os.trans h.os,g.tape.trans h.tape,g.output.trans h.output,Nat.le_trans h.hs g.size,
  λb hb hn=>(g.heap b (A4 hb h.hs)).trans (h.old b hb hn),λb o d=>hD b o (h.dom0 b o d),λb o d=>?_,h.owN,h.np,h.mu0,h.par,λb k x ob e hx o d=>h.lone b k x ob e hx o (H b k ob o d),h.keep0.trans m.keeps h.dom0,h.arr0_moves m h.par⟩,m⟩
 ·obtain ⟨c,T',h1,J,I,M,h5⟩:=h.box k T s e;exact BoxRep.mono ⟨c,T',h1,J,I,M,h5⟩ m rfl (g.heap _ (h.owlt _ _ I).1) I (λo d=>M o (H _ _ I o d))
 ·obtain ⟨ents,clock,kc,vc,h1,J,I,M⟩:=h.map k K E es e;exact OMapRep.mono ⟨ents,clock,kc,vc,h1,J,I,M⟩ m.dom m.keeps rfl (g.heap _ (h.owlt _ _ J).1) J (λo d=>I o (H _ _ J o d))
 ·rcases hN b o d with d | ⟨_,d⟩
  ·exact A4 (h.dlt b o d) g.size
  ·exact d
 ·rcases hN b o d with d | ⟨d,_⟩
  ·exact h.domN b o d
  ·exact Or.inr (Or.inl (Nat.le_trans h.hs d))
theorem WRel.pushHole {Γ:Ctx}{D:Dom}{ow:Own}{μ:Nat->Nat}{st:List BX}{w:World} (h:WRel Γ D ow μ st w):WRel Γ D ow μ (st++[.hole]) w/\Moves D w ow μ st D w ow μ (st++[.hole]):=by
 have aa:∀ {k:Nat}{y:BX},st[k]?=some y->k<st.length:=λe=>(Bg.1 e).1;have I:∀ {k:Nat}{y:BX},st[k]?=some y->(st++[BX.hole])[k]?=some y:=λ{k y} e=>by grind
 have H:∀ {k:Nat}{y:BX},(st++[BX.hole])[k]?=some y->y≠.hole->st[k]?=some y:=by grind
 have m:Moves D w ow μ st D w ow μ (st++[.hole]):=
  ⟨λ_ _ d=>d,Keeps.refl _ _,λk _ _ e=>⟨rfl,_,I e⟩,λk _ _ _ e=>⟨rfl,_,I e⟩,λk _ e _=>⟨rfl,_,I e,rfl⟩,λk _ _ _ e=>⟨_,_,I e,Nat.le_refl _,λ_=>⟨rfl,ArrKeep.refl _ _ _ _ _⟩⟩,λk g0 e=>⟨_,I e,Nat.le_refl _,λ_ b M=>⟨rfl,M,λ_ d=>d⟩⟩⟩
 have J:∀ k,k<Γ.np->∃ b,(st++[BX.hole])[k]?=some b/\b.kind=Γ.K0 k:=λk hk=>by obtain ⟨s,hs,h1⟩:=h.par k hk;grind
 refine ⟨⟨λk T s e=>?_,λk K E es e=>h.map k K E es (H e (by simp)),λk b e=>?_,λb k M=>⟨(h.owlt b k M).1,by have:=(h.owlt b k M).2;simp;omega⟩,h.dlt,h.os,h.tape,h.output,h.hs,h.old,h.dom0,h.domN,h.owN,by grind,h.mu0,J,λb k y M e hy o d=>?_,h.keep0.trans m.keeps h.dom0,h.arr0_moves m J⟩,m⟩
 ·obtain ⟨c,Z,q1,q2,q3,q4,q5⟩:=h.box k T s (H e (by simp));exact ⟨c,Z,q1,q2,q3,q4,q5.mono m⟩
 ·cases b with
  | hole=>trivial
  | _=>exact (h.obj k _ (H e (by simp))).mono m.dom m.keeps (λ_=>rfl) (λ_ o=>⟨rfl,o,λ_ d=>d⟩)
 ·have O:=(h.owlt b k M).2;rw [Ax O] at e;exact h.lone b k y M e hy o d
theorem WRel.pushHoles {Γ:Ctx}{D:Dom}{ow:Own}{μ:Nat->Nat}{w:World}:∀ (n:Nat) {st:List BX},WRel Γ D ow μ st w->WRel Γ D ow μ (st++List.replicate n .hole) w/\∀ {s:SV}{v:Value},SRep Γ.P D w ow μ st s v->SRep Γ.P D w ow μ (st++List.replicate n .hole) s v:=by
 intro n;induction n with
 | zero=>grind
 | succ n M=>
  intro st h;obtain ⟨o,m⟩:=h.pushHole;obtain ⟨H,I⟩:=M o;have e:st++List.replicate (n+1) BX.hole=st++[.hole]++List.replicate n .hole:=by grind
  rw [e];exact ⟨H,λJ=>I (J.mono m)⟩
def apd (np:Nat) (st:List BX) (k:Nat) (x:BX) (st':List BX):Prop:=(k=st.length/\st'=st++[x])\/(st[k]?=some .hole/\st'=st.set k x/\np<=k)
theorem WRel.newOwnAt {Γ:Ctx}{D:Dom}{ow:Own}{μ:Nat->Nat}{st st':List BX}{H:Nat}{w:World} (h:WRel Γ D ow μ st w) (o:Obj) (x:BX)
 (hx:Moves D w ow μ st D (w.alloc o) (upd ow w.heap.size (some H)) (upd μ H w.heap.size) st'->
  match x with
  | .box T s=>BoxRep Γ.P D (w.alloc o) (upd ow w.heap.size (some H)) (upd μ H w.heap.size) st' H T s
  | .map K E es=>OMapRep Γ.P D (w.alloc o) (upd ow w.heap.size (some H)) (upd μ H w.heap.size) H K E es
  | .iter s p=>ObjRep Γ.P D (w.alloc o) (upd ow w.heap.size (some H)) (upd μ H w.heap.size) H (.iter s p)
  | .bld T bs=>ObjRep Γ.P D (w.alloc o) (upd ow w.heap.size (some H)) (upd μ H w.heap.size) H (.bld T bs)
  | .arr E g xs=>ObjRep Γ.P D (w.alloc o) (upd ow w.heap.size (some H)) (upd μ H w.heap.size) H (.arr E g xs)
  | .mit K E c es=>ObjRep Γ.P D (w.alloc o) (upd ow w.heap.size (some H)) (upd μ H w.heap.size) H (.mit K E c es)
  | .acc _=>True
  | .hole=>True) (aa:apd Γ.np st H x st'):
 st'[H]?=some x/\WRel Γ D (upd ow w.heap.size (some H)) (upd μ H w.heap.size) st' (w.alloc o)/\
  Moves D w ow μ st D (w.alloc o) (upd ow w.heap.size (some H)) (upd μ H w.heap.size) st':=by
 have g:=Grew.alloc w o
 have ae:∀ {k:Nat}{y:BX},st[k]?=some y->k<st.length:=λe=>(Bg.1 e).1
 have M:∀ {k:Nat}{y:BX},st[k]?=some y->y≠.hole->st'[k]?=some y/\k≠H:=by
  intro k y e hy;rcases aa with ⟨rfl,rfl⟩ | ⟨Z,rfl,_⟩
  ·have:=ae e;exact ⟨by rw [Ax this];exact e,by omega⟩
  ·have ak:k≠H:=λhh=>by subst hh;rw [Z] at e;cases e;exact hy rfl
   exact ⟨by rw [Aq (by omega)];exact e,ak⟩
 have ad:st'[H]?=some x:=by
  rcases aa with ⟨rfl,rfl⟩ | ⟨Z,rfl,_⟩
  ·rw [A3 (Nat.le_refl _)];simp
  ·rw [List.getElem?_set_self (ae Z)]
 have ab:∀ {k:Nat}{y:BX},st'[k]?=some y->k≠H->st[k]?=some y:=by
  intro k y e I;rcases aa with ⟨rfl,rfl⟩ | ⟨Z,rfl,_⟩
  ·by_cases J:k<st.length
   ·rwa [Ax J] at e
   ·have:=(Bg.1 e).1;simp at this;omega
  ·rwa [Aq (by omega)] at e
 have ah:st.length<=st'.length/\H<st'.length:=by
  rcases aa with ⟨rfl,rfl⟩ | ⟨Z,rfl,_⟩
  ·simp
  ·have:=ae Z;simpa using this
 have al:Γ.np<=H:=by
  rcases aa with ⟨rfl,rfl⟩ | ⟨Z,rfl,h2⟩
  ·exact h.np
  ·exact h2
 have ag:∀ b,ow b=some H->∀ o,¬D b o:=by
  intro b O o d;rcases aa with ⟨rfl,rfl⟩ | ⟨Z,rfl,h2⟩
  ·have:=(h.owlt b _ O).2;omega
  ·exact h.lone b H _ O Z (by simp) o d
 have m:Moves D w ow μ st D (w.alloc o) (upd ow w.heap.size (some H)) (upd μ H w.heap.size) st':=by
  refine ⟨λ_ _ d=>d,Keeps.of_heap λb o d=>g.heap b (h.dlt b o d),λk _ _ e=>⟨aam _ _ (M e (by simp)).2,_,(M e (by simp)).1⟩,λk _ _ _ e=>⟨aam _ _ (M e (by simp)).2,_,(M e (by simp)).1⟩,
   λk b e hs=>?_,λk E g1 xs e=>⟨g1,xs,(M e (by simp)).1,Nat.le_refl _,λ_=>⟨rfl,λai hc ho=>?_⟩⟩,λk g0 e=>⟨_,(M e (by simp)).1,Nat.le_refl _,λ_ b O=>⟨g.heap b (h.owlt b k O).1,?_,λ_ d=>d⟩⟩⟩
  ·have hy:b≠.hole:=λhh=>by subst hh;exact hs rfl
   exact ⟨aam _ _ (M e hy).2,_,(M e hy).1,rfl⟩
  ·have J:=(h.owlt _ k ho).1;exact ⟨aam _ _ (M e (by simp)).2,by rw [aam _ _ (by omega)];exact ho,ai,(g.heap _ J).trans hc,rfl⟩
  ·rw [aam _ _ (by have:=(h.owlt b k O).1;omega)];exact O
 have hx:=hx m
 have af:∀ k,k<Γ.np->∃ b,st'[k]?=some b/\b.kind=Γ.K0 k:=by
  intro k I;obtain ⟨s,hs,Z⟩:=h.par k I;rcases aa with ⟨rfl,rfl⟩ | ⟨q1,rfl,q2⟩
  ·exact ⟨s,by rw [Ax (ae hs)];exact hs,Z⟩
  ·exact ⟨s,by rw [Aq (by omega)];exact hs,Z⟩
 refine ⟨ad,⟨λk T s e=>?_,λk K E es e=>?_,λk b e=>?_,λb k O=>?_,λb o d=>A4 (h.dlt b o d) g.size,h.os,h.tape,h.output,Nat.le_trans h.hs g.size,λb hb hn=>(g.heap b (A4 hb h.hs)).trans (h.old b hb hn),h.dom0,h.domN,
  λb k O hb=>?_,Nat.le_trans h.np ah.1,λk I hK=>?_,af,λb k y O e hy o d=>?_,h.keep0.trans m.keeps h.dom0,h.arr0_moves m af⟩,m⟩
 ·by_cases I:k=H
  ·subst I;rw [ad] at e;cases e;exact hx
  ·obtain ⟨c,T',Z,h2,h3,h4,h5⟩:=h.box k T s (ab e I);have J:=(h.owlt _ _ h3).1;exact BoxRep.mono ⟨c,T',Z,h2,h3,h4,h5⟩ m (aam _ _ I) (g.heap _ J) (by rw [aam _ _ (by omega)];exact h3) h4
 ·by_cases I:k=H
  ·subst I;rw [ad] at e;cases e;exact hx
  ·obtain ⟨ents,clock,kc,vc,Z,h2,h3,h4⟩:=h.map k K E es (ab e I);have J:=(h.owlt _ _ h2).1;exact OMapRep.mono ⟨ents,clock,kc,vc,Z,h2,h3,h4⟩ m.dom m.keeps (aam _ _ I) (g.heap _ J) (by rw [aam _ _ (by omega)];exact h2) h3
 ·by_cases I:k=H
  ·subst I;rw [ad] at e;cases e;cases x<;>first | exact hx | trivial
  ·refine (h.obj k b (ab e I)).mono m.dom m.keeps (λ_=>aam _ _ I) (λc oc=>?_);have J:=(h.owlt c k oc).1;exact ⟨g.heap _ J,by rw [aam _ _ (by omega)];exact oc,λ_ d=>d⟩
 ·by_cases hb:b=w.heap.size
  ·subst hb;rw [aai] at O;cases O;exact ⟨by simp,ah.2⟩
  ·rw [aam _ _ hb] at O;have:=h.owlt b k O;have:=g.size;exact ⟨by omega,by omega⟩
 ·have aj:b≠w.heap.size:=by have:=h.hs;omega
  rw [aam _ _ aj] at O;exact h.owN b k O hb
 ·rw [aam _ _ (by omega)];exact h.mu0 k I hK
 ·by_cases hb:b=w.heap.size
  ·have:=h.dlt b o d;omega
  ·rw [aam _ _ hb] at O;by_cases I:k=H
   ·subst I;exact ag b O o d
   ·exact h.lone b k y O (ab e I) hy o d
theorem WRel.newOwn {Γ:Ctx}{D:Dom}{ow:Own}{μ:Nat->Nat}{st:List BX}{w:World} (h:WRel Γ D ow μ st w) (o:Obj) (x:BX)
 (H:Moves D w ow μ st D (w.alloc o) (upd ow w.heap.size (some st.length)) (upd μ st.length w.heap.size) (st++[x])->
  match x with
  | .box T s=>BoxRep Γ.P D (w.alloc o) (upd ow w.heap.size (some st.length)) (upd μ st.length w.heap.size) (st++[x]) st.length T s
  | .map K E es=>OMapRep Γ.P D (w.alloc o) (upd ow w.heap.size (some st.length)) (upd μ st.length w.heap.size) st.length K E es
  | .iter s p=>ObjRep Γ.P D (w.alloc o) (upd ow w.heap.size (some st.length)) (upd μ st.length w.heap.size) st.length (.iter s p)
  | .bld T bs=>ObjRep Γ.P D (w.alloc o) (upd ow w.heap.size (some st.length)) (upd μ st.length w.heap.size) st.length (.bld T bs)
  | .arr E g xs=>ObjRep Γ.P D (w.alloc o) (upd ow w.heap.size (some st.length)) (upd μ st.length w.heap.size) st.length (.arr E g xs)
  | .mit K E c es=>ObjRep Γ.P D (w.alloc o) (upd ow w.heap.size (some st.length)) (upd μ st.length w.heap.size) st.length (.mit K E c es)
  | .acc _=>True
  | .hole=>True):
 WRel Γ D (upd ow w.heap.size (some st.length)) (upd μ st.length w.heap.size) (st++[x]) (w.alloc o)/\
  Moves D w ow μ st D (w.alloc o) (upd ow w.heap.size (some st.length)) (upd μ st.length w.heap.size) (st++[x]):=
 (h.newOwnAt o x H (Or.inl ⟨rfl,rfl⟩)).2
end Go.Ab
