/- The relation of the evaluator's state to the model's, and how it is kept. -/
import Derived.Test.YtodichgnoiaanaaGreatDoorAbOps
import Derived.Laws.IdiomRangeMap
set_option linter.unusedVariables false
set_option linter.unusedSimpArgs false
set_option linter.unnecessarySimpa false
namespace Go.Ab
open Go
structure Ctx where
 P:Program
 n:Nat
 B:Nat
 w0:World
 D0:Dom
 ow0:Own
 np:Nat
 μ0:Nat->Nat
 K0:Nat->List Nat
 L0:Nat->Nat
 hB:B=w0.heap.size
 tabs:Tabs P ow0 w0
def BoxRep (P:Program) (D:Dom) (w:World) (ow:Own) (μ:Nat->Nat) (st:List BX) (k:Nat) (T:TypeId) (s:SV):Prop:=
 ∃ (h:List Value) (z:TypeId),w.heap[μ k]?=some (.cells h.toArray z (0,0))/\h.length=P.cellsOf T/\ow (μ k)=some k/\(∀ o,¬D (μ k) o)/\SRep P D w ow μ st s (pack P T h)
def AtIdx (ents:Array MapEntry) (clock:Nat):Prop:=clock=ents.size/\∀ (i:Nat) (e:MapEntry),ents[i]?=some e->e.born=i
theorem AtIdx.nil:AtIdx #[] 0:=⟨rfl,λi e h=>by simp at h⟩
theorem AtIdx.push {ents:Array MapEntry}{clock:Nat} (h:AtIdx ents clock) (e:MapEntry) (z:e.born=clock):AtIdx (ents.push e) (clock+1):=by
 refine ⟨by rw [h.1];simp,λi x o=>?_⟩;rw [Array.getElem?_push] at o;split at o
 ·rename_i H;cases o;rw [z,h.1,H]
 ·exact h.2 i x o
theorem AtIdx.same {ents o:Array MapEntry}{clock:Nat} (h:AtIdx ents clock) (I:o.size=ents.size) (J:∀ (i:Nat) (x:MapEntry),o[i]?=some x->∃ y,ents[i]?=some y/\y.born=x.born):AtIdx o clock:=by refine ⟨by rw [I];exact h.1,λi x M=>?_⟩;obtain ⟨y,z,H⟩:=J i x M;rw [<-H];exact h.2 i y z
def OMapRep (P:Program) (D:Dom) (w:World) (ow:Own) (μ:Nat->Nat) (k:Nat) (K E:TypeId) (es:List (PV×PV)):Prop:=
 ∃ (ents:Array MapEntry) (clock:Nat) (kc vc:Nat->List Value),w.heap[μ k]?=some (.map ents clock)/\ow (μ k)=some k/\(∀ o,¬D (μ k) o)/\ents.size=es.length/\
  (∀ (i:Nat) (x:PV×PV),es[i]?=some x->Rep P D w K x.1 (kc i))/\(∀ (i:Nat) (x:PV×PV),es[i]?=some x->Rep P D w E x.2 (vc i))/\
  ax0 P K E kc vc ents clock/\AtIdx ents clock
def IterRep (D:Dom) (w:World) (ow:Own) (μ:Nat->Nat) (k:Nat) (s:Bo) (p:Nat):Prop:=
 w.heap[μ k]?=some (.stringIter ⟨s.toArray⟩ p)/\ow (μ k)=some k/\(∀ o,¬D (μ k) o)
def ak7 (P:Program):Nat->TypeId->TypeId
 | 0,_=>0
 | n+1,T=>
  match P.underlying T with
  | some (.struct h)=>
   match h.toList with
   | [f]=>ak7 P n f.type
   | [_,g]=>(match P.underlying g.type with | some (.slice e)=>e | _=>0)
   | _=>0
  | _=>0
def BldRep (P:Program) (D:Dom) (w:World) (ow:Own) (μ:Nat->Nat) (k:Nat) (T:TypeId) (bs:Bo):Prop:=
 ∃ p v,w.heap[μ k]?=some (.cells #[p,v] T (0,0))/\(p=.pointer none\/p=.pointer (some ⟨μ k,0,none⟩))/\ow (μ k)=some k/\(∀ o,¬D (μ k) o)/\
  ((
   v=.slice none 0 0/\bs=[])\/∃ g cap cur fz,v=.slice (some ⟨g,0,none⟩) bs.length cap/\w.heap[g]?=some (.cells cur (ak7 P 3 T) fz)/\fz.2<=bs.length/\bs.length<=cap/\cap<=maxLen/\cur.size=cap/\
   cur.toList.take bs.length=bs.map (λb=>Value.int .u8 b.toNat)/\g≠μ k/\ow g=some k/\∀ o,¬D g o)
def asy (P:Program) (D:Dom) (w:World) (ow:Own) (μ:Nat->Nat) (k:Nat) (E:TypeId) (xs:List PV):Prop:=
 xs=[]\/∃ cur:Array Value,w.heap[μ k]?=some (.cells cur E (0,0))/\ow (μ k)=some k/\(∀ o,¬D (μ k) o)/\xs.length*P.cellsOf E<=cur.size/\
  ∀ (i:Nat) (x:PV),xs[i]?=some x->Rep P D w E x ((cur.toList.drop (i*P.cellsOf E)).take (P.cellsOf E))
def CurRep (P:Program) (D:Dom) (w:World) (m:Option Nat) (z:Nat) (o:Array Nat) (K E:TypeId) (e:PV×PV):Prop:=
 ∃ (r:Nat) (ents:Array MapEntry) (h:MapEntry) (kc vc:List Value),m=some r/\D r 0/\w.heap[r]?=some (.map ents z)/\o.back?=some h.born/\ents.find? (λx=>x.born==h.born)=some h/\
  Rep P D w K e.1 kc/\Rep P D w E e.2 vc/\h.key=pack P K kc/\h.val=pack P E vc
theorem CurRep.mono {P:Program}{D D':Dom}{w w':World}{m:Option Nat}{O:Nat}{z:Array Nat}{K E:TypeId}{e:PV×PV} (h:CurRep P D w m O z K E e) (I:∀ x o,D x o->D' x o) (J:Keeps D w w'):CurRep P D' w' m O z K E e:=by obtain ⟨r,ents,H,kc,vc,Z,M,a3,a4,a5,a6,a7,a8,a9⟩:=h;exact ⟨r,ents,H,kc,vc,Z,I _ _ M,J.map _ _ M _ _ a3,a4,a5,a6.mono I J,a7.mono I J,a8,a9⟩
def ax3 (P:Program) (D:Dom) (w:World) (ow:Own) (μ:Nat->Nat) (k:Nat) (K E:TypeId) (c:Option (PV×PV)) (es:List (PV×PV)):Prop:=
 (∀ o,¬D (μ k) o)/\ow (μ k)=some k/\∃ (m:Option Nat) (z H:Nat) (h:Array Nat),w.heap[μ k]?=some (.mapIter m z h H)/\
  ((
   m=none/\es=[])\/∃ (r clock:Nat) (ents:Array MapEntry) (kc vc:Nat->List Value),m=some r/\D r 0/\w.heap[r]?=some (.map ents clock)/\z=clock/\clock<=H/\BornOk ents clock/\(leftOf ents h).size=es.length/\
   (∀ (i:Nat) (x:PV×PV),es[i]?=some x->Rep P D w K x.1 (kc i))/\(∀ (i:Nat) (x:PV×PV),es[i]?=some x->Rep P D w E x.2 (vc i))/\
   ∀ (i:Nat) (e:MapEntry),(leftOf ents h)[i]?=some e->e.key=pack P K (kc i)/\e.val=pack P E (vc i))/\
  ∀ e,c=some e->CurRep P D w m H h K E e
def ObjRep (P:Program) (D:Dom) (w:World) (ow:Own) (μ:Nat->Nat) (k:Nat):BX->Prop
 | .iter s p=>IterRep D w ow μ k s p
 | .bld T bs=>BldRep P D w ow μ k T bs
 | .arr E _ xs=>asy P D w ow μ k E xs
 | .mit K E c es=>ax3 P D w ow μ k K E c es
 | _=>True
structure WRel (Γ:Ctx) (D:Dom) (ow:Own) (μ:Nat->Nat) (st:List BX) (w:World):Prop where
 box:∀ (k:Nat) (T:TypeId) (s:SV),st[k]?=some (.box T s)->BoxRep Γ.P D w ow μ st k T s
 map:∀ (k:Nat) (K E:TypeId) (es:List (PV×PV)),st[k]?=some (.map K E es)->OMapRep Γ.P D w ow μ k K E es
 obj:∀ (k:Nat) (b:BX),st[k]?=some b->ObjRep Γ.P D w ow μ k b
 owlt:∀ b k,ow b=some k->b<w.heap.size/\k<st.length
 dlt:∀ b o,D b o->b<w.heap.size
 os:w.os=Γ.w0.os
 tape:w.tape=Γ.w0.tape
 output:w.output=Γ.w0.output
 hs:Γ.B<=w.heap.size
 old:∀ b,b<Γ.B->Γ.ow0 b=none->w.heap[b]?=Γ.w0.heap[b]?
 dom0:∀ b o,Γ.D0 b o->D b o
 domN:∀ b o,D b o->Γ.D0 b o\/Γ.B<=b\/Γ.ow0 b≠none
 owN:∀ b k,ow b=some k->b<Γ.B->Γ.ow0 b=some k
 np:Γ.np<=st.length
 mu0:∀ k,k<Γ.np->(∀ E,Γ.K0 k≠[3,E])->μ k=Γ.μ0 k
 par:∀ k,k<Γ.np->∃ b,st[k]?=some b/\b.kind=Γ.K0 k
 lone:∀ (b k:Nat) (x:BX),ow b=some k->st[k]?=some x->(∀ g,x≠.acc g)->∀ o,¬D b o
 keep0:Keeps Γ.D0 Γ.w0 w
 arr0:∀ k,k<Γ.np->∀ E xs,st[k]?=some (.arr E 0 xs)->xs.length=Γ.L0 k/\ArrKeep Γ.w0 Γ.ow0 Γ.μ0 w ow μ k E
theorem aim {b:BX}{E:TypeId} (h:b.kind=[3,E]):∃ g xs,b=.arr E g xs:=by cases b<;>simp [BX.kind] at h;simp_all
theorem WRel.arr0_moves {Γ:Ctx}{D D':Dom}{ow z:Own}{μ H:Nat->Nat}{st st':List BX}{w w':World} (h:WRel Γ D ow μ st w) (m:Moves D w ow μ st D' w' z H st') (hp:∀ k,k<Γ.np->∃ b,st'[k]?=some b/\b.kind=Γ.K0 k):
 ∀ k,k<Γ.np->∀ E xs,st'[k]?=some (.arr E 0 xs)->xs.length=Γ.L0 k/\ArrKeep Γ.w0 Γ.ow0 Γ.μ0 w' z H k E:=by
 intro k I E xs e
 obtain ⟨b,M,p1⟩:=h.par k I
 obtain ⟨b',o,p2⟩:=hp k I
 rw [e] at o;cases o
 obtain ⟨g,ys,rfl⟩:=aim (p1.trans p2.symm)
 obtain ⟨g',xs',J,h2,O⟩:=m.arr k E g ys M
 rw [e] at J;cases J
 have hg:g=0:=by omega
 subst hg
 obtain ⟨Z,h5⟩:=O rfl
 obtain ⟨h6,h7⟩:=h.arr0 k I E ys M
 exact ⟨Z.trans h6,h7.trans h5⟩
def SlotRep (P:Program) (D:Dom) (w:World) (ow:Own) (μ:Nat->Nat) (st:List BX) (a:Act) (s:SV) (v:Value):Prop:=
 match s with
 | .gd t h x=>(a.tmps.getD t Go.undef=.bool h->SRep P D w ow μ st x v)/\(a.tmps.getD t Go.undef≠.bool h->v=Go.undef)
 | s=>SRep P D w ow μ st s v
structure Slots (Γ:Ctx) (D:Dom) (ow:Own) (μ:Nat->Nat) (e:Env) (st:List BX) (a:Act) (w:World):Prop where
 size:a.tmps.size=Γ.n
 defers:a.defers=[]
 slot:∀ t,SlotRep Γ.P D w ow μ st a (e t) (a.tmps.getD t Go.undef)
def Rel (Γ:Ctx) (e:Env) (st:List BX) (a:Act) (w:World):Prop:=
 ∃ D ow μ,WRel Γ D ow μ st w/\Slots Γ D ow μ e st a w
theorem SlotRep.mono {P:Program}{D D':Dom}{w w':World}{ow o:Own}{μ z:Nat->Nat}{st st':List BX}{a:Act}{s:SV}{v:Value} (h:SlotRep P D w ow μ st a s v) (m:Moves D w ow μ st D' w' o z st'):SlotRep P D' w' o z st' a s v:=by
 cases s with
 | gd t H x=>exact ⟨λe=>(h.1 e).mono m,h.2⟩
 | _=>exact SRep.mono h m
theorem SRep.slot {P:Program}{D:Dom}{w:World}{ow:Own}{μ:Nat->Nat}{st:List BX}{a:Act}{s:SV}{v:Value} (h:SRep P D w ow μ st s v):SlotRep P D w ow μ st a s v:=by
 cases s with
 | gd t o x=>cases h
 | _=>exact h
theorem Act.getD_put (a:Act) (d t:Nat) (v:Value) (h:d<a.tmps.size):(a.put (some d) v).tmps.getD t Go.undef=if t=d then v else a.tmps.getD t Go.undef:=by
 have e:∀ (x:Array Value),x.getD t Go.undef=(x[t]?).getD Go.undef:=λx=>by simp
 rw [e,e];show ((a.tmps.setIfInBounds d v)[t]?).getD Go.undef=_;grind
theorem Slots.mono {Γ:Ctx}{D D':Dom}{w w':World}{ow o:Own}{μ z:Nat->Nat}{e:Env}{st st':List BX}{a:Act} (h:Slots Γ D ow μ e st a w) (m:Moves D w ow μ st D' w' o z st'):Slots Γ D' o z e st' a w':=
 ⟨h.size,h.defers,λt=>(h.slot t).mono m⟩
def azg (e:Env) (d:Nat):Prop:=∀ t u h x,e t=.gd u h x->u≠d
theorem Slots.put {Γ:Ctx}{D:Dom}{w:World}{ow:Own}{μ:Nat->Nat}{e:Env}{st:List BX}{a:Act} (h:Slots Γ D ow μ e st a w) (d:Option Nat) (s:SV) (v:Value)
 (hd:∀ x,d=some x->x<Γ.n/\azg e x) (hs:SlotRep Γ.P D w ow μ st a s v) (hg:∀ t o x,s=.gd t o x->d≠some t):Slots Γ D ow μ (Ab.put e d s) st (a.put d v) w:=by
 cases d with
 | none=>exact h
 | some d=>
  obtain ⟨J,hc⟩:=hd d rfl
  have H:d<a.tmps.size:=by rw [h.size];exact J
  refine ⟨by simp [Act.put,h.size],h.defers,λt=>?_⟩
  rw [Act.getD_put a d t v H]
  show SlotRep Γ.P D w ow μ st _ (Env.set e d s t) _
  unfold Env.set
  by_cases O:t=d
  ·subst O;simp only [Bg,Af,A9];cases s with
   | gd u o x=>
    have M:u≠t:=λhh=>hg u o x rfl (by rw [hh]);have e1:(a.put (some t) v).tmps.getD u Go.undef=a.tmps.getD u Go.undef:=by rw [Act.getD_put a t u v H,if_neg M]
    grind [SlotRep]
   | _=>exact hs
  ·have Z:Nat.beq t d=false:=by
    grind [Nat.beq,absurd,Nat.eq_of_beq_eq_true]
   simp only [Z,Ah,if_neg O];have z:=h.slot t;cases I:e t with
   | gd u o x=>
    rw [I] at z;have M:u≠d:=hc t u o x I;have e1:(a.put (some d) v).tmps.getD u Go.undef=a.tmps.getD u Go.undef:=by rw [Act.getD_put a d u v H,if_neg M]
    grind [SlotRep]
   | _=>rw [I] at z;exact z
theorem aa6 (w:World) (o:Obj) (b:Nat) (h:b<w.heap.size):(w.alloc o).heap[b]?=w.heap[b]?:=by show (w.heap.push o)[b]?=_;grind
theorem aas (w:World) (o:Obj):(w.alloc o).heap[w.heap.size]?=some o:=by show (w.heap.push o)[w.heap.size]?=_;simp
theorem cell?_of_heap {w w':World}{b:Nat} (h:w'.heap[b]?=w.heap[b]?) (o:Nat):w'.cell? ⟨b,o,none⟩=w.cell? ⟨b,o,none⟩:=by grind [World.cell?]
theorem Keeps.of_heap {D:Dom}{w w':World} (h:∀ b o,D b o->w'.heap[b]?=w.heap[b]?):Keeps D w w':=
 ⟨λb o d=>cell?_of_heap (h b o d) o,λb o d es c e=>(h b o d).trans e⟩
def upd {h:Type} (f:Nat->h) (i:Nat) (x:h):Nat->h:=λj=>if j=i then x else f j
theorem aah {h:Type} (f:Nat->h) (i:Nat) (x:h):upd f i x i=x:=by simp [upd]
theorem aak {o:Type} (f:Nat->o) {i j:Nat} (x:o) (h:j≠i):upd f i x j=f j:=by simp [upd,h]
theorem BoxRep.mono {P:Program}{D D':Dom}{w w':World}{ow H:Own}{μ I:Nat->Nat}{st st':List BX}{k:Nat}{T:TypeId}{s:SV} (h:BoxRep P D w ow μ st k T s) (m:Moves D w ow μ st D' w' H I st')
 (Z:I k=μ k) (hh:w'.heap[μ k]?=w.heap[μ k]?) (ho:H (μ k)=some k) (hD:∀ o,¬D' (μ k) o):BoxRep P D' w' H I st' k T s:=by
 obtain ⟨z,J,h1,M,h3,h4,O⟩:=h
 exact ⟨z,J,by grind,M,by grind,by grind,O.mono m⟩
theorem OMapRep.mono {P:Program}{D D':Dom}{w w':World}{ow H:Own}{μ I:Nat->Nat}{k:Nat}{K E:TypeId}{es:List (PV×PV)} (h:OMapRep P D w ow μ k K E es) (J:∀ x o,D x o->D' x o) (M:Keeps D w w')
 (z:I k=μ k) (hh:w'.heap[μ k]?=w.heap[μ k]?) (ho:H (μ k)=some k) (hD:∀ o,¬D' (μ k) o):OMapRep P D' w' H I k K E es:=by
 obtain ⟨ents,clock,kc,vc,O,h2,h3,Z,h5,h6,h7⟩:=h
 exact ⟨ents,clock,kc,vc,by rw [z,hh];exact O,by rw [z];exact ho,by rw [z];exact hD,Z,λi x a=>(h5 i x a).mono J M,λi x a=>(h6 i x a).mono J M,h7⟩
theorem IterRep.mono {D D':Dom}{w w':World}{ow z:Own}{μ H:Nat->Nat}{k p:Nat}{s:Bo} (h:IterRep D w ow μ k s p) (I:H k=μ k) (J:w'.heap[μ k]?=w.heap[μ k]?) (O:z (μ k)=some k) (M:∀ o,¬D' (μ k) o):IterRep D' w' z H k s p:=
 ⟨by rw [I,J];exact h.1,by grind,by grind⟩
theorem ObjRep.mono {P:Program}{D D':Dom}{w w':World}{ow aa:Own}{μ ad:Nat->Nat}{k:Nat}{b:BX} (h:ObjRep P D w ow μ k b) (hd:∀ x o,D x o->D' x o) (hk:Keeps D w w') (z:b.fix≠[]->ad k=μ k)
 (hs:∀ c,ow c=some k->w'.heap[c]?=w.heap[c]?/\aa c=some k/\∀ o,D' c o->D c o):ObjRep P D' w' aa ad k b:=by
 cases b with
 | iter s p=>
  obtain ⟨O,H,I⟩:=h
  obtain ⟨q1,J,q3⟩:=hs _ H
  exact IterRep.mono ⟨O,H,I⟩ (z (by simp [BX.fix])) q1 J (λo d=>I o (q3 o d))
 | bld T bs=>
  obtain ⟨p,v,O,H,I,Z,h5⟩:=h
  obtain ⟨q1,J,q3⟩:=hs _ I
  have e:=z (by simp [BX.fix])
  refine ⟨p,v,by grind,by rw [e];exact H,by rw [e];exact J,λo d=>by grind,?_⟩
  grind
 | arr E g xs=>
  rcases h with h | ⟨cur,O,H,I,Z,h5⟩
  ·exact Or.inl h
  ·obtain ⟨q1,J,q3⟩:=hs _ H;have e:=z (by simp [BX.fix]);exact Or.inr ⟨cur,by rw [e,q1];exact O,by rw [e];exact J,λo d=>by rw [e] at d;exact I o (q3 o d),Z,λi x hx=>(h5 i x hx).mono hd hk⟩
 | mit K E cu es=>
  obtain ⟨O,H,m,M,c0,ab,I,Z,h5⟩:=h
  obtain ⟨q1,J,q3⟩:=hs _ H
  have e:=z (by simp [BX.fix])
  refine ⟨λo d=>by rw [e] at d;exact O o (q3 o d),by rw [e];exact J,m,M,c0,ab,by rw [e,q1];exact I,?_,λe he=>(h5 e he).mono hd hk⟩
  rcases Z with Z | ⟨r,clock,ents,kc,vc,a1,a2,a3,a4,a5,a6,a7,a8,a9,ae⟩
  ·exact Or.inl Z
  ·exact Or.inr ⟨r,clock,ents,kc,vc,a1,hd _ _ a2,hk.map _ _ a2 _ _ a3,a4,a5,a6,a7,λi x hx=>(a8 i x hx).mono hd hk,λi x hx=>(a9 i x hx).mono hd hk,ae⟩
 | _=>trivial
theorem WRel.drawn {Γ:Ctx}{D:Dom}{ow:Own}{μ:Nat->Nat}{st:List BX}{w:World} (h:WRel Γ D ow μ st w) (n:Nat):WRel Γ D ow μ st { w with drawn:=n }/\Moves D w ow μ st D { w with drawn:=n } ow μ st:=by
 have m:Moves D w ow μ st D { w with drawn:=n } ow μ st:=
  ⟨λ_ _ d=>d,Keeps.of_heap λ_ _ _=>rfl,λ_ _ _ e=>⟨rfl,_,e⟩,λ_ _ _ _ e=>⟨rfl,_,e⟩,λ_ _ e _=>⟨rfl,_,e,rfl⟩,λ_ _ _ _ e=>⟨_,_,e,Nat.le_refl _,λ_=>⟨rfl,λcur Z ho=>⟨rfl,ho,cur,Z,rfl⟩⟩⟩,λ_ _ e=>⟨_,e,Nat.le_refl _,λ_ _ o=>⟨rfl,o,λ_ d=>d⟩⟩⟩
 refine ⟨⟨λk T s e=>?_,λk K E es e=>?_,λk b e=>(h.obj k b e).mono m.dom m.keeps (λ_=>rfl) (λ_ o=>⟨rfl,o,λ_ d=>d⟩),h.owlt,h.dlt,h.os,h.tape,h.output,h.hs,h.old,h.dom0,h.domN,h.owN,h.np,h.mu0,h.par,h.lone,h.keep0.trans m.keeps h.dom0,h.arr0_moves m h.par⟩,m⟩
 ·obtain ⟨c,I,J,z,H,M,O⟩:=h.box k T s e;exact ⟨c,I,J,z,H,M,O.mono m⟩
 ·exact (h.map k K E es e).mono m.dom m.keeps rfl rfl (by obtain ⟨_,_,_,_,_,z,_⟩:=h.map k K E es e;exact z) (by obtain ⟨_,_,_,_,_,_,H,_⟩:=h.map k K E es e;exact H)
structure Grew (w w':World):Prop where
 heap:∀ b,b<w.heap.size->w'.heap[b]?=w.heap[b]?
 size:w.heap.size<=w'.heap.size
 os:w'.os=w.os
 tape:w'.tape=w.tape
 output:w'.output=w.output
theorem Grew.alloc (w:World) (o:Obj):Grew w (w.alloc o):=⟨λb h=>aa6 w o b h,by simp,rfl,rfl,rfl⟩
theorem Grew.trans {a b c:World} (h:Grew a b) (k:Grew b c):Grew a c:=
 ⟨λx o=>(k.heap x (Az o h.size)).trans (h.heap x o),Nat.le_trans h.size k.size,k.os.trans h.os,k.tape.trans h.tape,k.output.trans h.output⟩
theorem Grew.drawn (w:World) (n:Nat):Grew w { w with drawn:=n }:=⟨λ_ _=>rfl,Nat.le_refl _,rfl,rfl,rfl⟩
theorem WRel.grew {Γ:Ctx}{D D':Dom}{ow:Own}{μ:Nat->Nat}{st:List BX}{w w':World} (h:WRel Γ D ow μ st w) (g:Grew w w') (hD:∀ b o,D b o->D' b o) (Z:∀ b o,D' b o->D b o\/(w.heap.size<=b/\b<w'.heap.size)):
 WRel Γ D' ow μ st w'/\Moves D w ow μ st D' w' ow μ st:=by
 have z:∀ b k,ow b=some k->∀ o,D' b o->D b o:=λb k M o d=>(Z b o d).resolve_right (λhh=>by have:=(h.owlt b k M).1;omega)
 have m:Moves D w ow μ st D' w' ow μ st:=
  ⟨hD,Keeps.of_heap λb o d=>g.heap b (h.dlt b o d),λ_ _ _ e=>⟨rfl,_,e⟩,λ_ _ _ _ e=>⟨rfl,_,e⟩,λ_ _ e _=>⟨rfl,_,e,rfl⟩,λk _ _ _ e=>⟨_,_,e,Nat.le_refl _,λ_=>⟨rfl,λcur hc M=>⟨rfl,M,cur,(g.heap _ (h.owlt _ k M).1).trans hc,rfl⟩⟩⟩,λk g0 e=>⟨_,e,Nat.le_refl _,λ_ b o=>⟨g.heap b (h.owlt b k o).1,o,z b k o⟩⟩⟩
 refine ⟨⟨λk T s e=>?_,λk K E es e=>?_,λk b e=>(h.obj k b e).mono m.dom m.keeps (λ_=>rfl) (λc o=>⟨g.heap c (h.owlt c k o).1,o,z c k o⟩),λb k o=>⟨Az (h.owlt b k o).1 g.size,(h.owlt b k o).2⟩,λb o d=>?_,g.os.trans h.os,g.tape.trans h.tape,g.output.trans h.output,Nat.le_trans h.hs g.size,
  λb hb hn=>(g.heap b (Az hb h.hs)).trans (h.old b hb hn),λb o d=>hD b o (h.dom0 b o d),λb o d=>?_,h.owN,h.np,h.mu0,h.par,λb k x ob e hx o d=>h.lone b k x ob e hx o (z b k ob o d),h.keep0.trans m.keeps h.dom0,h.arr0_moves m h.par⟩,m⟩
 ·obtain ⟨c,T',O,I,H,J,h5⟩:=h.box k T s e;exact BoxRep.mono ⟨c,T',O,I,H,J,h5⟩ m rfl (g.heap _ (h.owlt _ _ H).1) H (λo d=>J o (z _ _ H o d))
 ·obtain ⟨ents,clock,kc,vc,O,I,H,J⟩:=h.map k K E es e;exact OMapRep.mono ⟨ents,clock,kc,vc,O,I,H,J⟩ m.dom m.keeps rfl (g.heap _ (h.owlt _ _ I).1) I (λo d=>H o (z _ _ I o d))
 ·rcases Z b o d with d | ⟨_,d⟩
  ·exact Az (h.dlt b o d) g.size
  ·exact d
 ·rcases Z b o d with d | ⟨d,_⟩
  ·exact h.domN b o d
  ·exact Or.inr (Or.inl (Nat.le_trans h.hs d))
theorem WRel.pushHole {Γ:Ctx}{D:Dom}{ow:Own}{μ:Nat->Nat}{st:List BX}{w:World} (h:WRel Γ D ow μ st w):WRel Γ D ow μ (st++[.hole]) w/\Moves D w ow μ st D w ow μ (st++[.hole]):=by
 have aa:∀ {k:Nat}{y:BX},st[k]?=some y->k<st.length:=λe=>(A5.1 e).1;have H:∀ {k:Nat}{y:BX},st[k]?=some y->(st++[BX.hole])[k]?=some y:=λ{k y} e=>by grind
 have z:∀ {k:Nat}{y:BX},(st++[BX.hole])[k]?=some y->y≠.hole->st[k]?=some y:=by grind
 have m:Moves D w ow μ st D w ow μ (st++[.hole]):=
  ⟨λ_ _ d=>d,Keeps.refl _ _,λk _ _ e=>⟨rfl,_,H e⟩,λk _ _ _ e=>⟨rfl,_,H e⟩,λk _ e _=>⟨rfl,_,H e,rfl⟩,λk _ _ _ e=>⟨_,_,H e,Nat.le_refl _,λ_=>⟨rfl,ArrKeep.refl _ _ _ _ _⟩⟩,λk g0 e=>⟨_,H e,Nat.le_refl _,λ_ b J=>⟨rfl,J,λ_ d=>d⟩⟩⟩
 have I:∀ k,k<Γ.np->∃ b,(st++[BX.hole])[k]?=some b/\b.kind=Γ.K0 k:=λk Z=>by obtain ⟨s,hs,h1⟩:=h.par k Z;grind
 refine ⟨⟨λk T s e=>?_,λk K E es e=>h.map k K E es (z e (by simp)),λk b e=>?_,λb k J=>⟨(h.owlt b k J).1,by have:=(h.owlt b k J).2;simp;omega⟩,h.dlt,h.os,h.tape,h.output,h.hs,h.old,h.dom0,h.domN,h.owN,by grind,h.mu0,I,λb k y J e hy o d=>?_,h.keep0.trans m.keeps h.dom0,h.arr0_moves m I⟩,m⟩
 ·obtain ⟨c,O,q1,q2,q3,q4,q5⟩:=h.box k T s (z e (by simp));exact ⟨c,O,q1,q2,q3,q4,q5.mono m⟩
 ·cases b with
  | hole=>trivial
  | _=>exact (h.obj k _ (z e (by simp))).mono m.dom m.keeps (λ_=>rfl) (λ_ o=>⟨rfl,o,λ_ d=>d⟩)
 ·have M:=(h.owlt b k J).2;rw [A3 M] at e;exact h.lone b k y J e hy o d
theorem WRel.pushHoles {Γ:Ctx}{D:Dom}{ow:Own}{μ:Nat->Nat}{w:World}:∀ (n:Nat) {st:List BX},WRel Γ D ow μ st w->WRel Γ D ow μ (st++List.replicate n .hole) w/\∀ {s:SV}{v:Value},SRep Γ.P D w ow μ st s v->SRep Γ.P D w ow μ (st++List.replicate n .hole) s v:=by
 intro n;induction n with
 | zero=>grind
 | succ n J=>
  intro st h;obtain ⟨o,m⟩:=h.pushHole;obtain ⟨z,H⟩:=J o;have e:st++List.replicate (n+1) BX.hole=st++[.hole]++List.replicate n .hole:=by grind
  rw [e];exact ⟨z,λI=>H (I.mono m)⟩
def aqx (np:Nat) (st:List BX) (k:Nat) (x:BX) (st':List BX):Prop:=(k=st.length/\st'=st++[x])\/(st[k]?=some .hole/\st'=st.set k x/\np<=k)
theorem WRel.newOwnAt {Γ:Ctx}{D:Dom}{ow:Own}{μ:Nat->Nat}{st st':List BX}{z:Nat}{w:World} (h:WRel Γ D ow μ st w) (o:Obj) (x:BX)
 (hx:Moves D w ow μ st D (w.alloc o) (upd ow w.heap.size (some z)) (upd μ z w.heap.size) st'->
  match x with
  | .box T s=>BoxRep Γ.P D (w.alloc o) (upd ow w.heap.size (some z)) (upd μ z w.heap.size) st' z T s
  | .map K E es=>OMapRep Γ.P D (w.alloc o) (upd ow w.heap.size (some z)) (upd μ z w.heap.size) z K E es
  | .iter s p=>ObjRep Γ.P D (w.alloc o) (upd ow w.heap.size (some z)) (upd μ z w.heap.size) z (.iter s p)
  | .bld T bs=>ObjRep Γ.P D (w.alloc o) (upd ow w.heap.size (some z)) (upd μ z w.heap.size) z (.bld T bs)
  | .arr E g xs=>ObjRep Γ.P D (w.alloc o) (upd ow w.heap.size (some z)) (upd μ z w.heap.size) z (.arr E g xs)
  | .mit K E c es=>ObjRep Γ.P D (w.alloc o) (upd ow w.heap.size (some z)) (upd μ z w.heap.size) z (.mit K E c es)
  | .acc _=>True
  | .hole=>True) (Z:aqx Γ.np st z x st'):
 st'[z]?=some x/\WRel Γ D (upd ow w.heap.size (some z)) (upd μ z w.heap.size) st' (w.alloc o)/\
  Moves D w ow μ st D (w.alloc o) (upd ow w.heap.size (some z)) (upd μ z w.heap.size) st':=by
 have g:=Grew.alloc w o
 have ah:∀ {k:Nat}{y:BX},st[k]?=some y->k<st.length:=λe=>(A5.1 e).1
 have H:∀ {k:Nat}{y:BX},st[k]?=some y->y≠.hole->st'[k]?=some y/\k≠z:=by intro k y e hy;rcases Z with ⟨rfl,rfl⟩ | ⟨h1,rfl,_⟩;all_goals grind
 have ab:st'[z]?=some x:=by rcases Z with ⟨rfl,rfl⟩ | ⟨h1,rfl,_⟩;all_goals grind
 have O:∀ {k:Nat}{y:BX},st'[k]?=some y->k≠z->st[k]?=some y:=by intro k y e I;rcases Z with ⟨rfl,rfl⟩ | ⟨h1,rfl,_⟩;all_goals grind
 have af:st.length<=st'.length/\z<st'.length:=by rcases Z with ⟨rfl,rfl⟩ | ⟨h1,rfl,_⟩;all_goals grind
 have ag:Γ.np<=z:=by
  rcases Z with ⟨rfl,rfl⟩ | ⟨h1,rfl,h2⟩
  ·exact h.np
  ·exact h2
 have ae:∀ b,ow b=some z->∀ o,¬D b o:=by
  intro b J o d;rcases Z with ⟨rfl,rfl⟩ | ⟨h1,rfl,h2⟩
  ·have:=(h.owlt b _ J).2;omega
  ·exact h.lone b z _ J h1 (by simp) o d
 have m:Moves D w ow μ st D (w.alloc o) (upd ow w.heap.size (some z)) (upd μ z w.heap.size) st':=by
  refine ⟨λ_ _ d=>d,Keeps.of_heap λb o d=>g.heap b (h.dlt b o d),λk _ _ e=>⟨aak _ _ (H e (by simp)).2,_,(H e (by simp)).1⟩,λk _ _ _ e=>⟨aak _ _ (H e (by simp)).2,_,(H e (by simp)).1⟩,
   λk b e hs=>?_,λk E g1 xs e=>⟨g1,xs,(H e (by simp)).1,Nat.le_refl _,λ_=>⟨rfl,λcur hc ho=>?_⟩⟩,λk g0 e=>⟨_,(H e (by simp)).1,Nat.le_refl _,λ_ b J=>⟨g.heap b (h.owlt b k J).1,?_,λ_ d=>d⟩⟩⟩
  ·have hy:b≠.hole:=λhh=>by subst hh;exact hs rfl
   exact ⟨aak _ _ (H e hy).2,_,(H e hy).1,rfl⟩
  ·have M:=(h.owlt _ k ho).1;exact ⟨aak _ _ (H e (by simp)).2,by grind [aak],cur,(g.heap _ M).trans hc,rfl⟩
  ·rw [aak _ _ (by have:=(h.owlt b k J).1;omega)];exact J
 have hx:=hx m
 have aa:∀ k,k<Γ.np->∃ b,st'[k]?=some b/\b.kind=Γ.K0 k:=by intro k I;obtain ⟨s,hs,h1⟩:=h.par k I;grind
 refine ⟨ab,⟨λk T s e=>?_,λk K E es e=>?_,λk b e=>?_,λb k J=>?_,λb o d=>Az (h.dlt b o d) g.size,h.os,h.tape,h.output,Nat.le_trans h.hs g.size,λb hb hn=>(g.heap b (Az hb h.hs)).trans (h.old b hb hn),h.dom0,h.domN,
  λb k J hb=>?_,Nat.le_trans h.np af.1,λk I hK=>?_,aa,λb k y J e hy o d=>?_,h.keep0.trans m.keeps h.dom0,h.arr0_moves m aa⟩,m⟩
 ·by_cases I:k=z
  ·grind
  ·obtain ⟨c,T',h1,h2,h3,h4,h5⟩:=h.box k T s (O e I);have M:=(h.owlt _ _ h3).1;exact BoxRep.mono ⟨c,T',h1,h2,h3,h4,h5⟩ m (aak _ _ I) (g.heap _ M) (by grind [aak]) h4
 ·by_cases I:k=z
  ·grind
  ·obtain ⟨ents,clock,kc,vc,h1,h2,h3,h4⟩:=h.map k K E es (O e I);have M:=(h.owlt _ _ h2).1;exact OMapRep.mono ⟨ents,clock,kc,vc,h1,h2,h3,h4⟩ m.dom m.keeps (aak _ _ I) (g.heap _ M) (by grind [aak]) h3
 ·by_cases I:k=z
  ·subst I;rw [ab] at e;cases e;cases x<;>first | exact hx | trivial
  ·refine (h.obj k b (O e I)).mono m.dom m.keeps (λ_=>aak _ _ I) (λc oc=>?_);have M:=(h.owlt c k oc).1;exact ⟨g.heap _ M,by grind [aak],λ_ d=>d⟩
 ·by_cases hb:b=w.heap.size
  ·subst hb;rw [aah] at J;simp_all
  ·rw [aak _ _ hb] at J;have:=h.owlt b k J;have:=g.size;grind
 ·have ad:b≠w.heap.size:=by have:=h.hs;omega
  rw [aak _ _ ad] at J;exact h.owN b k J hb
 ·rw [aak _ _ (by omega)];exact h.mu0 k I hK
 ·by_cases hb:b=w.heap.size
  ·have:=h.dlt b o d;omega
  ·rw [aak _ _ hb] at J;by_cases I:k=z
   ·grind
   ·exact h.lone b k y J (O e I) hy o d
theorem WRel.newOwn {Γ:Ctx}{D:Dom}{ow:Own}{μ:Nat->Nat}{st:List BX}{w:World} (h:WRel Γ D ow μ st w) (o:Obj) (x:BX)
 (z:Moves D w ow μ st D (w.alloc o) (upd ow w.heap.size (some st.length)) (upd μ st.length w.heap.size) (st++[x])->
  match x with
  | .box T s=>BoxRep Γ.P D (w.alloc o) (upd ow w.heap.size (some st.length)) (upd μ st.length w.heap.size) (st++[x]) st.length T s
  | .map K E es=>OMapRep Γ.P D (w.alloc o) (upd ow w.heap.size (some st.length)) (upd μ st.length w.heap.size) st.length K E es
  | .iter s p=>ObjRep Γ.P D (w.alloc o) (upd ow w.heap.size (some st.length)) (upd μ st.length w.heap.size) st.length (.iter s p)
  | .bld T bs=>ObjRep Γ.P D (w.alloc o) (upd ow w.heap.size (some st.length)) (upd μ st.length w.heap.size) st.length (.bld T bs)
  | .arr E g xs=>ObjRep Γ.P D (w.alloc o) (upd ow w.heap.size (some st.length)) (upd μ st.length w.heap.size) st.length (.arr E g xs)
  | .mit K E c es=>ObjRep Γ.P D (w.alloc o) (upd ow w.heap.size (some st.length)) (upd μ st.length w.heap.size) st.length (.mit K E c es)
  | .acc _=>True
  | .hole=>True):
 WRel Γ D (upd ow w.heap.size (some st.length)) (upd μ st.length w.heap.size) (st++[x]) (w.alloc o)/\
  Moves D w ow μ st D (w.alloc o) (upd ow w.heap.size (some st.length)) (upd μ st.length w.heap.size) (st++[x]):=
 (h.newOwnAt o x z (Or.inl ⟨rfl,rfl⟩)).2
end Go.Ab
