/- The relation of the evaluator's state to the model's, and how it is kept. -/
import Derived.Test.YtofplaamkkpciaaGreatDoorAbOps
import Derived.Laws.IdiomRangeMap
set_option linter.unusedVariables false
set_option linter.unusedSimpArgs false
set_option linter.unnecessarySimpa false
namespace Go.Ab
open Go
structure Ctx where
 P:Program
 n:Nat
 B:Nat
 w0:World
 D0:Dom
 ow0:Own
 np:Nat
 μ0:Nat->Nat
 K0:Nat->List Nat
 L0:Nat->Nat
 hB:B=w0.heap.size
 tabs:Tabs P ow0 w0
def BoxRep(P:Program)(D:Dom)(w:World)(ow:Own)(μ:Nat->Nat)(st:List BX)(k:Nat)(T:TypeId)(s:SV):Prop:=
 ∃(m:List Value)(t:TypeId),w.heap[μ k]?=some (.cells m.toArray t (0,0))/\m.length=P.cellsOf T/\ow (μ k)=some k/\(∀o,¬D (μ k) o)/\SRep P D w ow μ st s (pack P T m)
def AtIdx(ents:Array MapEntry)(clock:Nat):Prop:=clock=ents.size/\∀(i:Nat)(e:MapEntry),ents[i]?=some e->e.born=i
theorem AtIdx.nil:AtIdx #[] 0:=⟨rfl,λi e h=>by simp at h⟩
theorem AtIdx.push{ents:Array MapEntry}{clock:Nat}(h:AtIdx ents clock)(e:MapEntry)(o:e.born=clock):AtIdx (ents.push e) (clock+1):=by
 refine⟨by rw[h.1];simp,λi x m=>?_⟩;rw[Array.getElem?_push]at m;split at m
 ·rename_i t;cases m;rw[o,h.1,t]
 ·exact h.2 i x m
theorem AtIdx.same{ents m:Array MapEntry}{clock:Nat}(h:AtIdx ents clock)(z:m.size=ents.size)(G:∀(i:Nat)(x:MapEntry),m[i]?=some x->∃y,ents[i]?=some y/\y.born=x.born):AtIdx m clock:=by refine⟨by rw[z];exact h.1,λi x H=>?_⟩;obtain⟨y,o,t⟩:=G i x H;rw[<-t];exact h.2 i y o
def OMapRep(P:Program)(D:Dom)(w:World)(ow:Own)(μ:Nat->Nat)(k:Nat)(K E:TypeId)(es:List (PV×PV)):Prop:=
 ∃(ents:Array MapEntry)(clock:Nat)(kc vc:Nat->List Value),w.heap[μ k]?=some (.map ents clock)/\ow (μ k)=some k/\(∀o,¬D (μ k) o)/\ents.size=es.length/\
  (∀(i:Nat)(x:PV×PV),es[i]?=some x->Rep P D w K x.1 (kc i))/\(∀(i:Nat)(x:PV×PV),es[i]?=some x->Rep P D w E x.2 (vc i))/\
  a2c P K E kc vc ents clock/\AtIdx ents clock
def IterRep(D:Dom)(w:World)(ow:Own)(μ:Nat->Nat)(k:Nat)(s:Bn)(p:Nat):Prop:=
 w.heap[μ k]?=some (.stringIter ⟨s.toArray⟩ p)/\ow (μ k)=some k/\(∀o,¬D (μ k) o)
def amy(P:Program):Nat->TypeId->TypeId
 |0,_=>0
 |n+1,T=>
  match P.underlying T with
  |some (.struct m)=>
   match m.toList with
   |[f]=>amy P n f.type
   |[_,g]=>(match P.underlying g.type with|some (.slice e)=>e|_=>0)
   |_=>0
  |_=>0
def BldRep(P:Program)(D:Dom)(w:World)(ow:Own)(μ:Nat->Nat)(k:Nat)(T:TypeId)(bs:Bn):Prop:=
 ∃p v,w.heap[μ k]?=some (.cells #[p,v] T (0,0))/\(p=.pointer none\/p=.pointer (some ⟨μ k,0,none⟩))/\ow (μ k)=some k/\(∀o,¬D (μ k) o)/\
  ((
   v=.slice none 0 0/\bs=[])\/∃g cap m fz,v=.slice (some ⟨g,0,none⟩) bs.length cap/\w.heap[g]?=some (.cells m (amy P 3 T) fz)/\fz.2<=bs.length/\bs.length<=cap/\cap<=maxLen/\m.size=cap/\
   m.toList.take bs.length=bs.map (λb=>Value.int .u8 b.toNat)/\g≠μ k/\ow g=some k/\∀o,¬D g o)
def a2a(P:Program)(D:Dom)(w:World)(ow:Own)(μ:Nat->Nat)(k:Nat)(E:TypeId)(xs:List PV):Prop:=
 xs=[]\/∃m:Array Value,w.heap[μ k]?=some (.cells m E (0,0))/\ow (μ k)=some k/\(∀o,¬D (μ k) o)/\xs.length*P.cellsOf E<=m.size/\
  ∀(i:Nat)(x:PV),xs[i]?=some x->Rep P D w E x ((m.toList.drop (i*P.cellsOf E)).take (P.cellsOf E))
def CurRep(P:Program)(D:Dom)(w:World)(m:Option Nat)(z:Nat)(t:Array Nat)(K E:TypeId)(e:PV×PV):Prop:=
 ∃(r:Nat)(ents:Array MapEntry)(o:MapEntry)(kc vc:List Value),m=some r/\D r 0/\w.heap[r]?=some (.map ents z)/\t.back?=some o.born/\ents.find? (λx=>x.born==o.born)=some o/\
  Rep P D w K e.1 kc/\Rep P D w E e.2 vc/\o.key=pack P K kc/\o.val=pack P E vc
theorem CurRep.mono{P:Program}{D D':Dom}{w w':World}{m:Option Nat}{J:Nat}{t:Array Nat}{K E:TypeId}{e:PV×PV}(h:CurRep P D w m J t K E e)(G:∀x o,D x o->D' x o)(H:Keeps D w w'):CurRep P D' w' m J t K E e:=by obtain⟨r,ents,z,kc,vc,M,I,O,U,V,W,X,Y,Z⟩:=h;exact⟨r,ents,z,kc,vc,M,G _ _ I,H.map _ _ I _ _ O,U,V,W.mono G H,X.mono G H,Y,Z⟩
def a7p(P:Program)(D:Dom)(w:World)(ow:Own)(μ:Nat->Nat)(k:Nat)(K E:TypeId)(c:Option (PV×PV))(es:List (PV×PV)):Prop:=
 (∀o,¬D (μ k) o)/\ow (μ k)=some k/\∃(m:Option Nat)(z G:Nat)(t:Array Nat),w.heap[μ k]?=some (.mapIter m z t G)/\
  ((
   m=none/\es=[])\/∃(r clock:Nat)(ents:Array MapEntry)(kc vc:Nat->List Value),m=some r/\D r 0/\w.heap[r]?=some (.map ents clock)/\z=clock/\clock<=G/\BornOk ents clock/\(leftOf ents t).size=es.length/\
   (∀(i:Nat)(x:PV×PV),es[i]?=some x->Rep P D w K x.1 (kc i))/\(∀(i:Nat)(x:PV×PV),es[i]?=some x->Rep P D w E x.2 (vc i))/\
   ∀(i:Nat)(e:MapEntry),(leftOf ents t)[i]?=some e->e.key=pack P K (kc i)/\e.val=pack P E (vc i))/\
  ∀e,c=some e->CurRep P D w m G t K E e
def ObjRep(P:Program)(D:Dom)(w:World)(ow:Own)(μ:Nat->Nat)(k:Nat):BX->Prop
 |.iter s p=>IterRep D w ow μ k s p
 |.bld T bs=>BldRep P D w ow μ k T bs
 |.arr E _ xs=>a2a P D w ow μ k E xs
 |.mit K E c es=>a7p P D w ow μ k K E c es
 |_=>True
structure WRel(Γ:Ctx)(D:Dom)(ow:Own)(μ:Nat->Nat)(st:List BX)(w:World):Prop where
 box:∀(k:Nat)(T:TypeId)(s:SV),st[k]?=some (.box T s)->BoxRep Γ.P D w ow μ st k T s
 map:∀(k:Nat)(K E:TypeId)(es:List (PV×PV)),st[k]?=some (.map K E es)->OMapRep Γ.P D w ow μ k K E es
 obj:∀(k:Nat)(b:BX),st[k]?=some b->ObjRep Γ.P D w ow μ k b
 owlt:∀b k,ow b=some k->b<w.heap.size/\k<st.length
 dlt:∀b o,D b o->b<w.heap.size
 os:w.os=Γ.w0.os
 tape:w.tape=Γ.w0.tape
 output:w.output=Γ.w0.output
 hs:Γ.B<=w.heap.size
 old:∀b,b<Γ.B->Γ.ow0 b=none->w.heap[b]?=Γ.w0.heap[b]?
 dom0:∀b o,Γ.D0 b o->D b o
 domN:∀b o,D b o->Γ.D0 b o\/Γ.B<=b\/Γ.ow0 b≠none
 owN:∀b k,ow b=some k->b<Γ.B->Γ.ow0 b=some k
 np:Γ.np<=st.length
 mu0:∀k,k<Γ.np->(∀E,Γ.K0 k≠[3,E])->μ k=Γ.μ0 k
 par:∀k,k<Γ.np->∃b,st[k]?=some b/\b.kind=Γ.K0 k
 lone:∀(b k:Nat)(x:BX),ow b=some k->st[k]?=some x->(∀g,x≠.acc g)->∀o,¬D b o
 keep0:Keeps Γ.D0 Γ.w0 w
 arr0:∀k,k<Γ.np->∀E xs,st[k]?=some (.arr E 0 xs)->xs.length=Γ.L0 k/\ArrKeep Γ.w0 Γ.ow0 Γ.μ0 w ow μ k E
theorem ajk{b:BX}{E:TypeId}(h:b.kind=[3,E]):∃g xs,b=.arr E g xs:=by cases b<;>simp[BX.kind]at h;simp_all
theorem WRel.arr0_moves{Γ:Ctx}{D D':Dom}{ow t:Own}{μ z:Nat->Nat}{st st':List BX}{w w':World}(h:WRel Γ D ow μ st w)(m:Moves D w ow μ st D' w' t z st')(X:∀k,k<Γ.np->∃b,st'[k]?=some b/\b.kind=Γ.K0 k):
 ∀k,k<Γ.np->∀E xs,st'[k]?=some (.arr E 0 xs)->xs.length=Γ.L0 k/\ArrKeep Γ.w0 Γ.ow0 Γ.μ0 w' t z k E:=by
 intro k G E xs e
 obtain⟨b,I,Y⟩:=h.par k G
 obtain⟨b',o,Z⟩:=X k G
 rw[e]at o;cases o
 obtain⟨g,ys,rfl⟩:=ajk (Y.trans Z.symm)
 obtain⟨g',xs',H,h2,J⟩:=m.arr k E g ys I
 rw[e]at H;cases H
 have W:g=0:=by omega
 subst W
 obtain⟨M,O⟩:=J rfl
 obtain⟨U,V⟩:=h.arr0 k G E ys I
 exact⟨M.trans U,V.trans O⟩
def SlotRep(P:Program)(D:Dom)(w:World)(ow:Own)(μ:Nat->Nat)(st:List BX)(a:Act)(s:SV)(v:Value):Prop:=
 match s with
 |.gd t m x=>(a.tmps.getD t Go.undef=.bool m->SRep P D w ow μ st x v)/\(a.tmps.getD t Go.undef≠.bool m->v=Go.undef)
 |s=>SRep P D w ow μ st s v
structure Slots(Γ:Ctx)(D:Dom)(ow:Own)(μ:Nat->Nat)(e:Env)(st:List BX)(a:Act)(w:World):Prop where
 size:a.tmps.size=Γ.n
 defers:a.defers=[]
 slot:∀t,SlotRep Γ.P D w ow μ st a (e t) (a.tmps.getD t Go.undef)
def Rel(Γ:Ctx)(e:Env)(st:List BX)(a:Act)(w:World):Prop:=
 ∃D ow μ,WRel Γ D ow μ st w/\Slots Γ D ow μ e st a w
theorem SlotRep.mono{P:Program}{D D':Dom}{w w':World}{ow o:Own}{μ z:Nat->Nat}{st st':List BX}{a:Act}{s:SV}{v:Value}(h:SlotRep P D w ow μ st a s v)(m:Moves D w ow μ st D' w' o z st'):SlotRep P D' w' o z st' a s v:=by
 cases s with
 |gd t G x=>exact⟨λe=>(h.1 e).mono m,h.2⟩
 |_=>exact SRep.mono h m
theorem SRep.slot{P:Program}{D:Dom}{w:World}{ow:Own}{μ:Nat->Nat}{st:List BX}{a:Act}{s:SV}{v:Value}(h:SRep P D w ow μ st s v):SlotRep P D w ow μ st a s v:=by
 cases s with
 |gd t m x=>cases h
 |_=>exact h
theorem Act.getD_put(a:Act)(d t:Nat)(v:Value)(m:d<a.tmps.size):(a.put (some d) v).tmps.getD t Go.undef=if t=d then v else a.tmps.getD t Go.undef:=by
 have e:∀(x:Array Value),x.getD t Go.undef=(x[t]?).getD Go.undef:=λx=>by simp
 rw[e,e];show((a.tmps.setIfInBounds d v)[t]?).getD Go.undef=_;grind
theorem Slots.mono{Γ:Ctx}{D D':Dom}{w w':World}{ow o:Own}{μ z:Nat->Nat}{e:Env}{st st':List BX}{a:Act}(h:Slots Γ D ow μ e st a w)(m:Moves D w ow μ st D' w' o z st'):Slots Γ D' o z e st' a w':=
 ⟨h.size,h.defers,λt=>(h.slot t).mono m⟩
def a4i(e:Env)(d:Nat):Prop:=∀t u m x,e t=.gd u m x->u≠d
theorem Slots.put{Γ:Ctx}{D:Dom}{w:World}{ow:Own}{μ:Nat->Nat}{e:Env}{st:List BX}{a:Act}(h:Slots Γ D ow μ e st a w)(d:Option Nat)(s:SV)(v:Value)
 (V:∀x,d=some x->x<Γ.n/\a4i e x) (Y:SlotRep Γ.P D w ow μ st a s v) (W:∀t m x,s=.gd t m x->d≠some t):Slots Γ D ow μ (Ab.put e d s) st (a.put d v) w:=by
 cases d with
 |none=>exact h
 |some d=>
  obtain⟨H,U⟩:=V d rfl
  have z:d<a.tmps.size:=by rw[h.size];exact H
  refine⟨by simp[Act.put,h.size],h.defers,λt=>?_⟩
  rw[Act.getD_put a d t v z]
  show SlotRep Γ.P D w ow μ st _ (Env.set e d s t) _
  unfold Env.set
  by_cases J:t=d
  ·subst J;simp only[Bg,Ad,A8];cases s with
   |gd u m x=>
    have I:u≠t:=λX=>W u m x rfl (by rw[X]);have O:(a.put (some t) v).tmps.getD u Go.undef=a.tmps.getD u Go.undef:=by rw[Act.getD_put a t u v z,if_neg I]
    grind[SlotRep]
   |_=>exact Y
  ·have M:Nat.beq t d=false:=by
    grind[Nat.beq,absurd,Nat.eq_of_beq_eq_true]
   simp only[M,Af,if_neg J];have o:=h.slot t;cases G:e t with
   |gd u m x=>
    rw[G]at o;have I:u≠d:=U t u m x G;have O:(a.put (some d) v).tmps.getD u Go.undef=a.tmps.getD u Go.undef:=by rw[Act.getD_put a d u v z,if_neg I]
    grind[SlotRep]
   |_=>rw[G]at o;exact o
theorem abc(w:World)(o:Obj)(b:Nat)(h:b<w.heap.size):(w.alloc o).heap[b]?=w.heap[b]?:=by show(w.heap.push o)[b]?=_;grind
theorem aaw(w:World)(o:Obj):(w.alloc o).heap[w.heap.size]?=some o:=by show(w.heap.push o)[w.heap.size]?=_;simp
theorem cell?_of_heap{w w':World}{b:Nat}(h:w'.heap[b]?=w.heap[b]?)(o:Nat):w'.cell? ⟨b,o,none⟩=w.cell? ⟨b,o,none⟩:=by grind[World.cell?]
theorem Keeps.of_heap{D:Dom}{w w':World}(h:∀b o,D b o->w'.heap[b]?=w.heap[b]?):Keeps D w w':=
 ⟨λb o d=>cell?_of_heap (h b o d) o,λb o d es c e=>(h b o d).trans e⟩
def upd{α:Type}(f:Nat->α)(i:Nat)(x:α):Nat->α:=λj=>if j=i then x else f j
theorem aaf{α:Type}(f:Nat->α)(i:Nat)(x:α):upd f i x i=x:=by simp[upd]
theorem abu{α:Type}(f:Nat->α){i j:Nat}(x:α)(h:j≠i):upd f i x j=f j:=by simp[upd,h]
theorem BoxRep.mono{P:Program}{D D':Dom}{w w':World}{ow z:Own}{μ G:Nat->Nat}{st st':List BX}{k:Nat}{T:TypeId}{s:SV}(h:BoxRep P D w ow μ st k T s)(m:Moves D w ow μ st D' w' z G st')
 (M:G k=μ k) (X:w'.heap[μ k]?=w.heap[μ k]?) (Y:z (μ k)=some k) (W:∀o,¬D' (μ k) o):BoxRep P D' w' z G st' k T s:=by
 obtain⟨t,H,O,I,U,V,J⟩:=h
 exact⟨t,H,by grind,I,by grind,by grind,J.mono m⟩
theorem OMapRep.mono{P:Program}{D D':Dom}{w w':World}{ow m:Own}{μ t:Nat->Nat}{k:Nat}{K E:TypeId}{es:List (PV×PV)}(h:OMapRep P D w ow μ k K E es)(z:∀x o,D x o->D' x o)(G:Keeps D w w')
 (O:t k=μ k) (Y:w'.heap[μ k]?=w.heap[μ k]?) (Z:m (μ k)=some k) (X:∀o,¬D' (μ k) o):OMapRep P D' w' m t k K E es:=by
 obtain⟨ents,clock,kc,vc,U,V,W,H,I,J,M⟩:=h
 exact⟨ents,clock,kc,vc,by simp[*],by simp[*],by simp[*],H,λi x a=>(I i x a).mono z G,λi x a=>(J i x a).mono z G,M⟩
theorem IterRep.mono{D D':Dom}{w w':World}{ow m:Own}{μ t:Nat->Nat}{k p:Nat}{s:Bn}(h:IterRep D w ow μ k s p)(z:t k=μ k)(G:w'.heap[μ k]?=w.heap[μ k]?)(I:m (μ k)=some k)(H:∀o,¬D' (μ k) o):IterRep D' w' m t k s p:=
 ⟨by rw[z,G];exact h.1,by grind,by grind⟩
theorem ObjRep.mono{P:Program}{D D':Dom}{w w':World}{ow U:Own}{μ W:Nat->Nat}{k:Nat}{b:BX}(h:ObjRep P D w ow μ k b)(J:∀x o,D x o->D' x o)(M:Keeps D w w')(t:b.fix≠[]->W k=μ k)
 (Z:∀c,ow c=some k->w'.heap[c]?=w.heap[c]?/\U c=some k/\∀o,D' c o->D c o):ObjRep P D' w' U W k b:=by
 cases b with
 |iter s p=>
  obtain⟨X,z,H⟩:=h
  obtain⟨q1,q2,q3⟩:=Z _ z
  exact IterRep.mono ⟨X,z,H⟩ (t (by simp[BX.fix])) q1 q2 (λo d=>H o (q3 o d))
 |bld T bs=>
  obtain⟨p,v,X,z,H,I,Y⟩:=h
  obtain⟨q1,q2,q3⟩:=Z _ H
  have e:=t (by simp[BX.fix])
  refine⟨p,v,by grind,by simp[*],by simp[*],λo d=>by grind,?_⟩
  grind
 |arr E g xs=>
  rcases h with h|⟨ab,X,z,H,I,Y⟩
  ·exact Or.inl h
  ·obtain⟨q1,q2,q3⟩:=Z _ z;have e:=t (by simp[BX.fix]);exact Or.inr ⟨ab,by simp[*],by simp[*],λo d=>by grind,I,λi x O=>(Y i x O).mono J M⟩
 |mit K E cu es=>
  obtain⟨X,z,m,G,c0,V,H,I,Y⟩:=h
  obtain⟨q1,q2,q3⟩:=Z _ z
  have e:=t (by simp[BX.fix])
  refine⟨λo d=>by grind,by simp[*],m,G,c0,V,by simp[*],?_,λe he=>(Y e he).mono J M⟩
  rcases I with I|⟨r,clock,ents,kc,vc,a1,a2,a3,a4,a5,a6,a7,a8,a9,aa⟩
  ·simp[*]
  ·exact Or.inr ⟨r,clock,ents,kc,vc,a1,J _ _ a2,M.map _ _ a2 _ _ a3,a4,a5,a6,a7,λi x O=>(a8 i x O).mono J M,λi x O=>(a9 i x O).mono J M,aa⟩
 |_=>trivial
def BRep(P:Program)(D:Dom)(w:World)(ow:Own)(μ:Nat->Nat)(st:List BX)(k:Nat):BX->Prop
 |.box T s=>BoxRep P D w ow μ st k T s
 |.map K E es=>OMapRep P D w ow μ k K E es
 |b=>ObjRep P D w ow μ k b
def a7r(w:World)(ow:Own)(μ:Nat->Nat)(w':World)(z:Own)(m:Nat->Nat)(k np:Nat)(t:BX):BX->Prop
 |.hole=>np<=k
 |.box T _=>m k=μ k/\∃v,t=.box T v
 |.map K E _=>m k=μ k/\∃es,t=.map K E es
 |.arr E g xs=>∃o xs',t=.arr E o xs'/\g<=o/\(o=g->xs'.length=xs.length/\ArrKeep w ow μ w' z m k E)
 |.acc g=>m k=μ k/\∃o,t=.acc o/\g<o
 |b=>m k=μ k/\t.sort=b.sort/\t.kind=b.kind
theorem WRel.turn{Γ:Ctx}{D D':Dom}{ow G:Own}{μ J:Nat->Nat}{st st':List BX}{w w':World}(h:WRel Γ D ow μ st w)(k:Nat)(x':BX)(X:∀y,st'[k]?=some y->y=x')(ai:∀j,j≠k->st'[j]?=st[j]?)(ag:st.length<=st'.length)
 (hT:∀x,st[k]?=some x->st'[k]?=some x'/\a7r w ow μ w' G J k Γ.np x' x) (H:∀j,j≠k->J j=μ j) (hd:∀b o,D b o->D' b o) (ae:Keeps D w w') (aa:∀b,b<w.heap.size->ow b≠some k->w'.heap[b]?=w.heap[b]?)
 (Z:∀b j,j≠k->ow b=some j->G b=some j/\∀o,D' b o->D b o) (ad:∀b j,j≠k->G b=some j->ow b=some j) (Y:∀b,G b=some k->b<w'.heap.size/\k<st'.length/\(b<Γ.B->Γ.ow0 b=some k)/\((∀g,x'≠.acc g)->∀o,¬D' b o))
 (af:∀b o,D' b o->D b o\/(b<w'.heap.size/\(Γ.B<=b\/Γ.ow0 b≠none))) (aj:w.heap.size<=w'.heap.size) (al:w'.os=w.os) (an:w'.tape=w.tape) (am:w'.output=w.output)
 (V:Moves D w ow μ st D' w' G J st'->st'[k]?=some x'->BRep Γ.P D' w' G J st' k x'):WRel Γ D' G J st' w'/\Moves D w ow μ st D' w' G J st':=by
 have z:∀{j:Nat}{y:BX},st[j]?=some y->j≠k->st'[j]?=some y:=λe t=>(ai _ t).trans e
 have M:∀{j:Nat}{y:BX},st'[j]?=some y->j≠k->st[j]?=some y:=λe t=>(ai _ t).symm.trans e
 have hs:∀b j,j≠k->ow b=some j->w'.heap[b]?=w.heap[b]?:=λb j t o=>aa b (h.owlt b j o).1 (by rw[o];simpa using t)
 have m:Moves D w ow μ st D' w' G J st':=by
  refine⟨hd,ae,λj T v e=>?_,λj K E es e=>?_,λj b e hs=>?_,λj E g xs e=>?_,λj g e=>?_⟩<;>by_cases t:j=k
  ·subst t;obtain⟨W,I,v',rfl⟩:=hT _ e;exact⟨I,v',W⟩
  ·exact⟨H j t,v,z e t⟩
  ·subst t;obtain⟨W,I,v',rfl⟩:=hT _ e;exact⟨I,v',W⟩
  ·exact⟨H j t,es,z e t⟩
  ·subst t;have ht:=hT _ e;cases b<;>first|exact absurd rfl hs|exact⟨ht.2.1,x',ht.1,ht.2.2.1⟩
  ·exact⟨H j t,b,z e t,rfl⟩
  ·subst t;obtain⟨W,g',xs',rfl,I⟩:=hT _ e;exact⟨g',xs',W,I⟩
  ·exact⟨g,xs,z e t,Nat.le_refl _,λ_=>⟨rfl,λak hc ah=>⟨H j t,(Z _ j t ah).1,ak,(hs _ j t ah).trans hc,rfl⟩⟩⟩
  ·subst t;obtain⟨W,_,g',rfl,I⟩:=hT _ e;exact⟨g',W,by omega,λh=>by omega⟩
  ·exact⟨g,z e t,Nat.le_refl _,λ_ b O=>⟨hs b j t O,Z b j t O⟩⟩
 have ab:∀j,j<Γ.np->∃b,st'[j]?=some b/\b.kind=Γ.K0 j:=by
  intro j t;obtain⟨x,hx,p1⟩:=h.par j t;by_cases U:j=k
  ·subst U;obtain⟨W,I⟩:=hT x hx;refine⟨x',W,Eq.trans ?_ p1⟩;cases x with
   |box T v=>obtain⟨_,_,rfl⟩:=I;rfl
   |map K E es=>obtain⟨_,_,rfl⟩:=I;rfl
   |arr E g xs=>obtain⟨_,_,rfl,_⟩:=I;rfl
   |acc g=>obtain⟨_,_,rfl,_⟩:=I;rfl
   |hole=>exact absurd t (Nat.not_lt.2 I)
   |_=>exact I.2.2
  ·exact⟨x,z hx U,p1⟩
 refine⟨⟨λj T s e=>?_,λj K E es e=>?_,λj b e=>?_,λb j O=>?_,λb o d=>?_,al.trans h.os,an.trans h.tape,am.trans h.output,Nat.le_trans h.hs aj,λb hB hn=>?_,λb o d=>hd _ _ (h.dom0 b o d),λb o d=>?_,λb j O hB=>?_,Nat.le_trans h.np ag,λj t hK=>?_,ab,λb j y O e hy o d=>?_,h.keep0.trans m.keeps h.dom0,h.arr0_moves m ab⟩,m⟩
 ·by_cases t:j=k
  ·subst t;have:=X _ e;subst this;exact V m e
  ·obtain⟨c,T1,q1,q2,q3,q4,q5⟩:=h.box j T s (M e t);exact BoxRep.mono ⟨c,T1,q1,q2,q3,q4,q5⟩ m (H j t) (hs _ j t q3) (Z _ j t q3).1 λo d=>q4 o ((Z _ j t q3).2 o d)
 ·by_cases t:j=k
  ·subst t;have:=X _ e;subst this;exact V m e
  ·obtain⟨ents,clock,kc,vc,q1,q2,q3⟩:=h.map j K E es (M e t);exact OMapRep.mono ⟨ents,clock,kc,vc,q1,q2,q3⟩ hd ae (H j t) (hs _ j t q2) (Z _ j t q2).1 λo d=>q3.1 o ((Z _ j t q2).2 o d)
 ·by_cases t:j=k
  ·subst t;have:=X _ e;subst this;have:=V m e;cases b<;>first|exact this|trivial
  ·exact(h.obj j b (M e t)).mono hd ae (λ_=>H j t) λc oc=>⟨hs c j t oc,Z c j t oc⟩
 ·by_cases t:j=k
  ·subst t;exact⟨(Y b O).1,(Y b O).2.1⟩
  ·have:=h.owlt b j (ad b j t O);exact⟨by omega,by omega⟩
 ·rcases af b o d with d|d
  ·exact A0 (h.dlt b o d) aj
  ·exact d.1
 ·refine(aa b (A0 hB h.hs) λO=>?_).trans (h.old b hB hn);rw[h.owN b k O hB]at hn;cases hn
 ·rcases af b o d with d|d
  ·exact h.domN b o d
  ·exact Or.inr d.2
 ·by_cases t:j=k
  ·subst t;exact(Y b O).2.2.1 hB
  ·exact h.owN b j (ad b j t O) hB
 ·by_cases U:j=k
  ·subst U;obtain⟨x,hx,p1⟩:=h.par j t;obtain⟨_,I⟩:=hT x hx;rw[<-h.mu0 j t hK];cases x with
   |arr E g xs=>exact absurd p1.symm (hK E)
   |hole=>exact absurd t (Nat.not_lt.2 I)
   |_=>exact I.1
  ·rw[H j U];exact h.mu0 j t hK
 ·by_cases t:j=k
  ·subst t;have:=X _ e;subst this;exact(Y b O).2.2.2 hy o d
  ·have o1:=ad b j t O;exact h.lone b j y o1 (M e t) hy o ((Z b j t o1).2 o d)
theorem WRel.setB{Γ:Ctx}{D:Dom}{ow:Own}{μ:Nat->Nat}{st:List BX}{w w':World}(h:WRel Γ D ow μ st w){k:Nat}{x:BX}(t:BX)(I:st[k]?=some x)(Y:a7r w ow μ w' ow μ k Γ.np t x)(V:w'=w\/∀g,x≠.acc g)
 (Z:∀b,ow b≠some k->w'.heap[b]?=w.heap[b]?) (O:w'.heap.size=w.heap.size) (J:w'.os=w.os) (U:w'.tape=w.tape) (M:w'.output=w.output) (H:Moves D w ow μ st D w' ow μ (st.set k t)->BRep Γ.P D w' ow μ (st.set k t) k t):
 WRel Γ D ow μ (st.set k t) w'/\Moves D w ow μ st D w' ow μ (st.set k t):=by
 have G:=(A6.1 I).1
 have z:(st.set k t)[k]?=some t:=by rw[List.getElem?_set_self G]
 refine h.turn k t (λy e=>by rw[z]at e;cases e;rfl) (λj hj=>Ay (by omega)) (by simp) (λy e=>?_) (λ_ _=>rfl) (λ_ _ d=>d) (Keeps.of_heap λb o d=>?_) (λb _ e=>Z b e) (λb j _ o=>⟨o,λ_ d=>d⟩) (λb j _ o=>o)
  (λb X=>⟨by have:=(h.owlt b k X).1;omega,by simpa using G,h.owN b k X,λW=>h.lone b k x X I λg e=>?_⟩) (λb o d=>Or.inl d) (Nat.le_of_eq O.symm) J U M λm _=>H m
 ·rw[I]at e;cases e;exact⟨z,Y⟩
 ·rcases V with rfl|V
  ·rfl
  ·exact Z b λe=>h.lone b k x e I V o d
 ·subst e;obtain⟨_,g',h1,_⟩:=Y;exact W g' h1
theorem WRel.turnO{Γ:Ctx}{D D':Dom}{ow:Own}{μ z:Nat->Nat}{st st':List BX}{w w':World}(h:WRel Γ D ow μ st w)(k gb:Nat)(U:BX)(M:st'[k]?=some U)(ae:∀j,j≠k->st'[j]?=st[j]?)(W:st.length<=st'.length)
 (hT:∀x,st[k]?=some x->a7r w ow μ w' (upd ow gb (some k)) z k Γ.np U x) (ah:∀j,j≠k->z j=μ j) (hd:∀b o,D b o->D' b o) (aa:Keeps D w w') (H:(w.heap.size<=gb/\gb<w'.heap.size)\/ow gb=some k) (I:∀b,b<w.heap.size->b≠gb->w'.heap[b]?=w.heap[b]?)
 (Z:∀b o,D' b o->D b o\/(b=gb/\∃g,U=.acc g)) (Y:∀b,ow b=some k->(∀g,U≠.acc g)->∀o,¬D b o) (af:w.heap.size<=w'.heap.size) (ab:w'.os=w.os) (ag:w'.tape=w.tape) (ad:w'.output=w.output)
 (X:Moves D w ow μ st D' w' (upd ow gb (some k)) z st'->BRep Γ.P D' w' (upd ow gb (some k)) z st' k U):WRel Γ D' (upd ow gb (some k)) z st' w'/\Moves D w ow μ st D' w' (upd ow gb (some k)) z st':=by
 have hB:=h.hs
 have G:∀{j b:Nat},ow b=some j->j≠k->b≠gb:=by
  intro j b ob V e;subst e;rcases H with t|t
  ·have:=(h.owlt b j ob).1;omega
  ·rw[ob]at t;cases t;exact V rfl
 refine h.turn k U (λy e=>by rw[M]at e;cases e;rfl) ae W (λx e=>⟨M,hT x e⟩) ah hd aa (λb hb hn=>I b hb λe=>?_) (λb j V o=>⟨by rw[abu _ _ (G o V)];exact o,λx d=>(Z b x d).resolve_right λe=>G o V e.1⟩) (λb j V o=>?_) (λb o=>?_) (λb o d=>?_) af ab ag ad λm _=>X m
 ·subst e;rcases H with t|t
  ·omega
  ·exact hn t
 ·by_cases e:b=gb
  ·rw[e,aaf]at o;cases o;exact absurd rfl V
  ·rwa[abu _ _ e]at o
 ·have hl:k<st'.length:=(A6.1 M).1;have O:∀{x:Nat},(∀g,U≠.acc g)->D' b x->D b x:=λJ d=>(Z b _ d).resolve_right λe=>by obtain⟨_,g,e⟩:=e;exact J g e
  by_cases e:b=gb
  ·subst e;rcases H with t|t
   ·exact⟨t.2,hl,λ_=>by omega,λJ x d=>by have:=h.dlt _ _ (O J d);omega⟩
   ·exact⟨by have:=(h.owlt b k t).1;omega,hl,h.owN b k t,λJ x d=>Y b t J x (O J d)⟩
  ·rw[abu _ _ e]at o;exact⟨by have:=(h.owlt b k o).1;omega,hl,h.owN b k o,λJ x d=>Y b o J x (O J d)⟩
 ·refine(Z b o d).imp id λe=>?_;obtain⟨rfl,_⟩:=e;rcases H with t|t
  ·exact⟨t.2,Or.inl (by omega)⟩
  ·refine⟨by have:=(h.owlt b k t).1;omega,?_⟩;by_cases hb:b<Γ.B
   ·exact Or.inr (by rw[h.owN b k t hb];simp)
   ·exact Or.inl (by omega)
theorem WRel.push{Γ:Ctx}{D:Dom}{ow:Own}{μ:Nat->Nat}{st:List BX}{w:World}(h:WRel Γ D ow μ st w)(x:BX)(m:BRep Γ.P D w ow μ (st++[x]) st.length x):WRel Γ D ow μ (st++[x]) w/\Moves D w ow μ st D w ow μ (st++[x]):=
 h.turn st.length x (λy e=>by simpa using e.symm) (λj t=>by grind) (by simp) (λy e=>by simp at e) (λ_ _=>rfl) (λ_ _ d=>d) (Keeps.refl _ _) (λ_ _ _=>rfl) (λb j _ o=>⟨o,λ_ d=>d⟩) (λb j _ o=>o) (λb o=>absurd (h.owlt b _ o).2 (Nat.lt_irrefl _)) (λb o d=>Or.inl d) (Nat.le_refl _) rfl rfl rfl λ_ _=>m
structure Grew(w w':World):Prop where
 heap:∀b,b<w.heap.size->w'.heap[b]?=w.heap[b]?
 size:w.heap.size<=w'.heap.size
 os:w'.os=w.os
 tape:w'.tape=w.tape
 output:w'.output=w.output
theorem Grew.alloc(w:World)(o:Obj):Grew w (w.alloc o):=⟨λb h=>abc w o b h,by simp,rfl,rfl,rfl⟩
theorem Grew.trans{a b c:World}(h:Grew a b)(k:Grew b c):Grew a c:=
 ⟨λx m=>(k.heap x (A0 m h.size)).trans (h.heap x m),Nat.le_trans h.size k.size,k.os.trans h.os,k.tape.trans h.tape,k.output.trans h.output⟩
theorem Grew.drawn(w:World)(n:Nat):Grew w { w with drawn:=n }:=⟨λ_ _=>rfl,Nat.le_refl _,rfl,rfl,rfl⟩
theorem WRel.grew{Γ:Ctx}{D D':Dom}{ow:Own}{μ:Nat->Nat}{st:List BX}{w w':World}(h:WRel Γ D ow μ st w)(g:Grew w w')(t:∀b o,D b o->D' b o)(m:∀b o,D' b o->D b o\/(w.heap.size<=b/\b<w'.heap.size)):
 WRel Γ D' ow μ st w'/\Moves D w ow μ st D' w' ow μ st:=
 h.turn st.length .hole (λy e=>by simp at e) (λ_ _=>rfl) (Nat.le_refl _) (λy e=>by simp at e) (λ_ _=>rfl) t (Keeps.of_heap λb o d=>g.heap b (h.dlt b o d)) (λb z _=>g.heap b z) (λb j _ o=>⟨o,λx d=>(m b x d).resolve_right λe=>by have:=(h.owlt b j o).1;omega⟩) (λb j _ o=>o)
  (λb o=>absurd (h.owlt b _ o).2 (Nat.lt_irrefl _)) (λb o d=>(m b o d).imp id λe=>⟨e.2,Or.inl (Nat.le_trans h.hs e.1)⟩) g.size g.os g.tape g.output λ_ _=>trivial
theorem WRel.drawn{Γ:Ctx}{D:Dom}{ow:Own}{μ:Nat->Nat}{st:List BX}{w:World}(h:WRel Γ D ow μ st w)(n:Nat):WRel Γ D ow μ st { w with drawn:=n }/\Moves D w ow μ st D { w with drawn:=n } ow μ st:=
 h.grew (Grew.drawn w n) (λ_ _ d=>d) λ_ _ d=>Or.inl d
theorem WRel.pushHole{Γ:Ctx}{D:Dom}{ow:Own}{μ:Nat->Nat}{st:List BX}{w:World}(h:WRel Γ D ow μ st w):WRel Γ D ow μ (st++[.hole]) w/\Moves D w ow μ st D w ow μ (st++[.hole]):=h.push .hole trivial
theorem WRel.pushHoles{Γ:Ctx}{D:Dom}{ow:Own}{μ:Nat->Nat}{w:World}:∀(n:Nat){st:List BX},WRel Γ D ow μ st w->WRel Γ D ow μ (st++List.replicate n .hole) w/\∀{s:SV}{v:Value},SRep Γ.P D w ow μ st s v->SRep Γ.P D w ow μ (st++List.replicate n .hole) s v:=by
 intro n;induction n with
 |zero=>grind
 |succ n H=>
  intro st h;obtain⟨o,m⟩:=h.pushHole;obtain⟨t,z⟩:=H o;have e:st++List.replicate (n+1) BX.hole=st++[.hole]++List.replicate n .hole:=by grind
  rw[e];exact⟨t,λG=>z (G.mono m)⟩
def at8(np:Nat)(st:List BX)(k:Nat)(x:BX)(st':List BX):Prop:=(k=st.length/\st'=st++[x])\/(st[k]?=some .hole/\st'=st.set k x/\np<=k)
theorem WRel.newOwnAt{Γ:Ctx}{D:Dom}{ow:Own}{μ:Nat->Nat}{st st':List BX}{m:Nat}{w:World}(h:WRel Γ D ow μ st w)(o:Obj)(x:BX)
 (O:Moves D w ow μ st D (w.alloc o) (upd ow w.heap.size (some m)) (upd μ m w.heap.size) st'->BRep Γ.P D (w.alloc o) (upd ow w.heap.size (some m)) (upd μ m w.heap.size) st' m x) (t:at8 Γ.np st m x st'):
 st'[m]?=some x/\WRel Γ D (upd ow w.heap.size (some m)) (upd μ m w.heap.size) st' (w.alloc o)/\
  Moves D w ow μ st D (w.alloc o) (upd ow w.heap.size (some m)) (upd μ m w.heap.size) st':=by
 have g:=Grew.alloc w o
 have G:st'[m]?=some x:=by rcases t with⟨rfl,rfl⟩|⟨z,rfl,_⟩<;>grind
 refine⟨G,h.turnO m w.heap.size x G (λj I=>?_) ?_ (λy e=>?_) (λj I=>abu _ _ I) (λ_ _ d=>d) (Keeps.of_heap λb o d=>g.heap b (h.dlt b o d)) (Or.inl ⟨Nat.le_refl _,by simp⟩) (λb M _=>g.heap b M) (λb o d=>Or.inl d) (λb J _=>?_) g.size rfl rfl rfl O⟩
 ·rcases t with⟨rfl,rfl⟩|⟨z,rfl,_⟩<;>grind
 ·rcases t with⟨rfl,rfl⟩|⟨z,rfl,_⟩<;>simp
 ·rcases t with⟨rfl,rfl⟩|⟨z,rfl,H⟩
  ·simp at e
  ·rw[z]at e;cases e;exact H
 ·rcases t with⟨rfl,rfl⟩|⟨z,rfl,H⟩
  ·exact absurd (h.owlt b _ J).2 (Nat.lt_irrefl _)
  ·exact h.lone b m _ J z (by simp)
theorem WRel.newOwn{Γ:Ctx}{D:Dom}{ow:Own}{μ:Nat->Nat}{st:List BX}{w:World}(h:WRel Γ D ow μ st w)(o:Obj)(x:BX)
 (m:Moves D w ow μ st D (w.alloc o) (upd ow w.heap.size (some st.length)) (upd μ st.length w.heap.size) (st++[x])->BRep Γ.P D (w.alloc o) (upd ow w.heap.size (some st.length)) (upd μ st.length w.heap.size) (st++[x]) st.length x):
 WRel Γ D (upd ow w.heap.size (some st.length)) (upd μ st.length w.heap.size) (st++[x]) (w.alloc o)/\
  Moves D w ow μ st D (w.alloc o) (upd ow w.heap.size (some st.length)) (upd μ st.length w.heap.size) (st++[x]):=
 (h.newOwnAt o x m (Or.inl ⟨rfl,rfl⟩)).2
end Go.Ab
