/- The relation of the evaluator's state to the model's, and how it is kept. -/
import Derived.Test.YtcpkdafleaddlaaGreatDoorAbOps
set_option linter.unusedVariables false
set_option linter.unusedSimpArgs false
set_option linter.unnecessarySimpa false
namespace Go.Ab
open Go
structure Ctx where
 P:Program
 n:Nat
 B:Nat
 w0:World
 D0:Dom
 ow0:Own
 np:Nat
 μ0:Nat->Nat
 K0:Nat->List Nat
 L0:Nat->Nat
 hB:B=w0.heap.size
 tabs:Tabs P ow0 w0
def BoxRep (P:Program) (D:Dom) (w:World) (ow:Own) (μ:Nat->Nat) (st:List BX) (k:Nat) (T:TypeId) (s:SV):Prop:=
 ∃ (d:List Value) (m:TypeId),w.heap[μ k]?=some (.cells d.toArray m (0,0))/\d.length=P.cellsOf T/\ow (μ k)=some k/\(∀ o,¬D (μ k) o)/\SRep P D w ow μ st s (pack P T d)
def OMapRep (P:Program) (D:Dom) (w:World) (ow:Own) (μ:Nat->Nat) (k:Nat) (K E:TypeId) (es:List (PV×PV)):Prop:=
 ∃ (ents:Array MapEntry) (clock:Nat) (kc vc:Nat->List Value),w.heap[μ k]?=some (.map ents clock)/\ow (μ k)=some k/\(∀ o,¬D (μ k) o)/\ents.size=es.length/\
  (∀ (i:Nat) (x:PV×PV),es[i]?=some x->Rep P D w K x.1 (kc i))/\(∀ (i:Nat) (x:PV×PV),es[i]?=some x->Rep P D w E x.2 (vc i))/\
  (∀ (i:Nat) (e:MapEntry),ents[i]?=some e->e.key=pack P K (kc i)/\e.val=pack P E (vc i))
def IterRep (D:Dom) (w:World) (ow:Own) (μ:Nat->Nat) (k:Nat) (s:Bq) (p:Nat):Prop:=
 w.heap[μ k]?=some (.stringIter ⟨s.toArray⟩ p)/\ow (μ k)=some k/\(∀ o,¬D (μ k) o)
def ak9 (P:Program):Nat->TypeId->TypeId
 | 0,_=>0
 | n+1,T=>
  match P.underlying T with
  | some (.struct fs)=>
   match fs.toList with
   | [f]=>ak9 P n f.type
   | [_,g]=>(match P.underlying g.type with | some (.slice e)=>e | _=>0)
   | _=>0
  | _=>0
def BldRep (P:Program) (D:Dom) (w:World) (ow:Own) (μ:Nat->Nat) (k:Nat) (T:TypeId) (bs:Bq):Prop:=
 ∃ p v,w.heap[μ k]?=some (.cells #[p,v] T (0,0))/\(p=.pointer none\/p=.pointer (some ⟨μ k,0,none⟩))/\ow (μ k)=some k/\(∀ o,¬D (μ k) o)/\
  ((
   v=.slice none 0 0/\bs=[])\/∃ g cap d fz,v=.slice (some ⟨g,0,none⟩) bs.length cap/\w.heap[g]?=some (.cells d (ak9 P 3 T) fz)/\fz.2<=bs.length/\bs.length<=cap/\cap<=maxLen/\d.size=cap/\
   d.toList.take bs.length=bs.map (λb=>Value.int .u8 b.toNat)/\g≠μ k/\ow g=some k/\∀ o,¬D g o)
def ayd (P:Program) (D:Dom) (w:World) (ow:Own) (μ:Nat->Nat) (k:Nat) (E:TypeId) (xs:List PV):Prop:=
 xs=[]\/∃ d:Array Value,w.heap[μ k]?=some (.cells d E (0,0))/\ow (μ k)=some k/\(∀ o,¬D (μ k) o)/\xs.length*P.cellsOf E<=d.size/\
  ∀ (i:Nat) (x:PV),xs[i]?=some x->Rep P D w E x ((d.toList.drop (i*P.cellsOf E)).take (P.cellsOf E))
def ObjRep (P:Program) (D:Dom) (w:World) (ow:Own) (μ:Nat->Nat) (k:Nat):BX->Prop
 | .iter s p=>IterRep D w ow μ k s p
 | .bld T bs=>BldRep P D w ow μ k T bs
 | .arr E _ xs=>ayd P D w ow μ k E xs
 | _=>True
structure WRel (Γ:Ctx) (D:Dom) (ow:Own) (μ:Nat->Nat) (st:List BX) (w:World):Prop where
 box:∀ (k:Nat) (T:TypeId) (s:SV),st[k]?=some (.box T s)->BoxRep Γ.P D w ow μ st k T s
 map:∀ (k:Nat) (K E:TypeId) (es:List (PV×PV)),st[k]?=some (.map K E es)->OMapRep Γ.P D w ow μ k K E es
 obj:∀ (k:Nat) (b:BX),st[k]?=some b->ObjRep Γ.P D w ow μ k b
 owlt:∀ b k,ow b=some k->b<w.heap.size/\k<st.length
 dlt:∀ b o,D b o->b<w.heap.size
 os:w.os=Γ.w0.os
 tape:w.tape=Γ.w0.tape
 output:w.output=Γ.w0.output
 hs:Γ.B<=w.heap.size
 old:∀ b,b<Γ.B->Γ.ow0 b=none->w.heap[b]?=Γ.w0.heap[b]?
 dom0:∀ b o,Γ.D0 b o->D b o
 domN:∀ b o,D b o->Γ.D0 b o\/Γ.B<=b\/Γ.ow0 b≠none
 owN:∀ b k,ow b=some k->b<Γ.B->Γ.ow0 b=some k
 np:Γ.np<=st.length
 mu0:∀ k,k<Γ.np->(∀ E,Γ.K0 k≠[3,E])->μ k=Γ.μ0 k
 par:∀ k,k<Γ.np->∃ b,st[k]?=some b/\b.kind=Γ.K0 k
 lone:∀ (b k:Nat) (x:BX),ow b=some k->st[k]?=some x->(∀ g,x≠.acc g)->∀ o,¬D b o
 keep0:Keeps Γ.D0 Γ.w0 w
 arr0:∀ k,k<Γ.np->∀ E xs,st[k]?=some (.arr E 0 xs)->xs.length=Γ.L0 k/\ArrKeep Γ.w0 Γ.ow0 Γ.μ0 w ow μ k E
theorem aiw {b:BX}{E:TypeId} (h:b.kind=[3,E]):∃ g xs,b=.arr E g xs:=by cases b<;>simp [BX.kind] at h;simp_all
theorem WRel.arr0_moves {Γ:Ctx}{D D':Dom}{ow o:Own}{μ z:Nat->Nat}{st st':List BX}{w w':World} (h:WRel Γ D ow μ st w) (m:Moves D w ow μ st D' w' o z st') (hp:∀ k,k<Γ.np->∃ b,st'[k]?=some b/\b.kind=Γ.K0 k):
 ∀ k,k<Γ.np->∀ E xs,st'[k]?=some (.arr E 0 xs)->xs.length=Γ.L0 k/\ArrKeep Γ.w0 Γ.ow0 Γ.μ0 w' o z k E:=by
 intro k H E xs e
 obtain ⟨b,O,p1⟩:=h.par k H
 obtain ⟨b',d,p2⟩:=hp k H
 rw [e] at d;cases d
 obtain ⟨g,U,rfl⟩:=aiw (p1.trans p2.symm)
 obtain ⟨g',xs',M,h2,V⟩:=m.arr k E g U O
 rw [e] at M;cases M
 have hg:g=0:=by omega
 subst hg
 obtain ⟨W,X⟩:=V rfl
 obtain ⟨Y,Z⟩:=h.arr0 k H E U O
 exact ⟨W.trans Y,Z.trans X⟩
def SlotRep (P:Program) (D:Dom) (w:World) (ow:Own) (μ:Nat->Nat) (st:List BX) (a:Act) (s:SV) (v:Value):Prop:=
 match s with
 | .gd t d x=>(a.tmps.getD t Go.undef=.bool d->SRep P D w ow μ st x v)/\(a.tmps.getD t Go.undef≠.bool d->v=Go.undef)
 | s=>SRep P D w ow μ st s v
structure Slots (Γ:Ctx) (D:Dom) (ow:Own) (μ:Nat->Nat) (e:Env) (st:List BX) (a:Act) (w:World):Prop where
 size:a.tmps.size=Γ.n
 defers:a.defers=[]
 slot:∀ t,SlotRep Γ.P D w ow μ st a (e t) (a.tmps.getD t Go.undef)
def Rel (Γ:Ctx) (e:Env) (st:List BX) (a:Act) (w:World):Prop:=
 ∃ D ow μ,WRel Γ D ow μ st w/\Slots Γ D ow μ e st a w
theorem SlotRep.mono {P:Program}{D D':Dom}{w w':World}{ow d:Own}{μ o:Nat->Nat}{st st':List BX}{a:Act}{s:SV}{v:Value} (h:SlotRep P D w ow μ st a s v) (m:Moves D w ow μ st D' w' d o st'):SlotRep P D' w' d o st' a s v:=by
 cases s with
 | gd t z x=>exact ⟨λe=>(h.1 e).mono m,h.2⟩
 | _=>exact SRep.mono h m
theorem SRep.slot {P:Program}{D:Dom}{w:World}{ow:Own}{μ:Nat->Nat}{st:List BX}{a:Act}{s:SV}{v:Value} (h:SRep P D w ow μ st s v):SlotRep P D w ow μ st a s v:=by
 cases s with
 | gd t d x=>cases h
 | _=>exact h
theorem Act.getD_put (a:Act) (d t:Nat) (v:Value) (m:d<a.tmps.size):(a.put (some d) v).tmps.getD t Go.undef=if t=d then v else a.tmps.getD t Go.undef:=by
 have e:∀ (x:Array Value),x.getD t Go.undef=(x[t]?).getD Go.undef:=λx=>by simp
 rw [e,e];show ((a.tmps.setIfInBounds d v)[t]?).getD Go.undef=_;grind
theorem Slots.mono {Γ:Ctx}{D D':Dom}{w w':World}{ow d:Own}{μ o:Nat->Nat}{e:Env}{st st':List BX}{a:Act} (h:Slots Γ D ow μ e st a w) (m:Moves D w ow μ st D' w' d o st'):Slots Γ D' d o e st' a w':=
 ⟨h.size,h.defers,λt=>(h.slot t).mono m⟩
def azz (e:Env) (d:Nat):Prop:=∀ t u m x,e t=.gd u m x->u≠d
theorem Slots.put {Γ:Ctx}{D:Dom}{w:World}{ow:Own}{μ:Nat->Nat}{e:Env}{st:List BX}{a:Act} (h:Slots Γ D ow μ e st a w) (d:Option Nat) (s:SV) (v:Value)
 (Y:∀ x,d=some x->x<Γ.n/\azz e x) (hs:SlotRep Γ.P D w ow μ st a s v) (Z:∀ t m x,s=.gd t m x->d≠some t):Slots Γ D ow μ (Ab.put e d s) st (a.put d v) w:=by
 cases d with
 | none=>exact h
 | some d=>
  obtain ⟨M,X⟩:=Y d rfl
  have z:d<a.tmps.size:=by rw [h.size];exact M
  refine ⟨by simp [Act.put,h.size],h.defers,λt=>?_⟩
  rw [Act.getD_put a d t v z]
  show SlotRep Γ.P D w ow μ st _ (Env.set e d s t) _
  unfold Env.set
  by_cases U:t=d
  ·subst U;simp only [Bg,Ad,A6];cases s with
   | gd u m x=>
    have O:u≠t:=λhh=>Z u m x rfl (by rw [hh]);have W:(a.put (some t) v).tmps.getD u Go.undef=a.tmps.getD u Go.undef:=by rw [Act.getD_put a t u v z,if_neg O]
    grind [SlotRep]
   | _=>exact hs
  ·have V:Nat.beq t d=false:=by
    grind [Nat.beq,absurd,Nat.eq_of_beq_eq_true]
   simp only [V,Ae,if_neg U];have o:=h.slot t;cases H:e t with
   | gd u m x=>
    rw [H] at o;have O:u≠d:=X t u m x H;have W:(a.put (some d) v).tmps.getD u Go.undef=a.tmps.getD u Go.undef:=by rw [Act.getD_put a d u v z,if_neg O]
    grind [SlotRep]
   | _=>rw [H] at o;exact o
theorem aa0 (w:World) (o:Obj) (b:Nat) (h:b<w.heap.size):(w.alloc o).heap[b]?=w.heap[b]?:=by show (w.heap.push o)[b]?=_;grind
theorem aax (w:World) (o:Obj):(w.alloc o).heap[w.heap.size]?=some o:=by show (w.heap.push o)[w.heap.size]?=_;simp
theorem cell?_of_heap {w w':World}{b:Nat} (h:w'.heap[b]?=w.heap[b]?) (o:Nat):w'.cell? ⟨b,o,none⟩=w.cell? ⟨b,o,none⟩:=by grind [World.cell?]
theorem Keeps.of_heap {D:Dom}{w w':World} (h:∀ b o,D b o->w'.heap[b]?=w.heap[b]?):Keeps D w w':=
 ⟨λb o d=>cell?_of_heap (h b o d) o,λb o d es c e=>(h b o d).trans e⟩
def upd {d:Type} (f:Nat->d) (i:Nat) (x:d):Nat->d:=λj=>if j=i then x else f j
theorem aah {d:Type} (f:Nat->d) (i:Nat) (x:d):upd f i x i=x:=by simp [upd]
theorem aap {d:Type} (f:Nat->d) {i j:Nat} (x:d) (h:j≠i):upd f i x j=f j:=by simp [upd,h]
theorem BoxRep.mono {P:Program}{D D':Dom}{w w':World}{ow z:Own}{μ H:Nat->Nat}{st st':List BX}{k:Nat}{T:TypeId}{s:SV} (h:BoxRep P D w ow μ st k T s) (m:Moves D w ow μ st D' w' z H st')
 (V:H k=μ k) (hh:w'.heap[μ k]?=w.heap[μ k]?) (ho:z (μ k)=some k) (Z:∀ o,¬D' (μ k) o):BoxRep P D' w' z H st' k T s:=by
 obtain ⟨d,M,W,O,X,Y,U⟩:=h
 exact ⟨d,M,by grind,O,by grind,by grind,U.mono m⟩
theorem OMapRep.mono {P:Program}{D D':Dom}{w w':World}{ow m:Own}{μ z:Nat->Nat}{k:Nat}{K E:TypeId}{es:List (PV×PV)} (h:OMapRep P D w ow μ k K E es) (H:∀ x o,D x o->D' x o) (M:Keeps D w w')
 (d:z k=μ k) (Z:w'.heap[μ k]?=w.heap[μ k]?) (ho:m (μ k)=some k) (Y:∀ o,¬D' (μ k) o):OMapRep P D' w' m z k K E es:=by
 obtain ⟨ents,clock,kc,vc,O,h2,h3,U,V,W,X⟩:=h
 exact ⟨ents,clock,kc,vc,by rw [d,Z];exact O,by rw [d];exact ho,by rw [d];exact Y,U,λi x a=>(V i x a).mono H M,λi x a=>(W i x a).mono H M,X⟩
theorem IterRep.mono {D D':Dom}{w w':World}{ow d:Own}{μ m:Nat->Nat}{k p:Nat}{s:Bq} (h:IterRep D w ow μ k s p) (z:m k=μ k) (H:w'.heap[μ k]?=w.heap[μ k]?) (O:d (μ k)=some k) (M:∀ o,¬D' (μ k) o):IterRep D' w' d m k s p:=
 ⟨by rw [z,H];exact h.1,by grind,by grind⟩
theorem ObjRep.mono {P:Program}{D D':Dom}{w w':World}{ow M:Own}{μ U:Nat->Nat}{k:Nat}{b:BX} (h:ObjRep P D w ow μ k b) (hd:∀ x o,D x o->D' x o) (hk:Keeps D w w') (m:b.fix≠[]->U k=μ k)
 (Z:∀ c,ow c=some k->w'.heap[c]?=w.heap[c]?/\M c=some k/\∀ o,D' c o->D c o):ObjRep P D' w' M U k b:=by
 cases b with
 | iter s p=>
  obtain ⟨V,z,H⟩:=h
  obtain ⟨W,O,X⟩:=Z _ z
  exact IterRep.mono ⟨V,z,H⟩ (m (by simp [BX.fix])) W O (λo d=>H o (X o d))
 | bld T bs=>
  obtain ⟨p,v,V,z,H,h4,h5⟩:=h
  obtain ⟨W,O,X⟩:=Z _ H
  have e:=m (by simp [BX.fix])
  refine ⟨p,v,by grind,by rw [e];exact z,by rw [e];exact O,λo d=>by grind,?_⟩
  grind
 | arr E g xs=>
  rcases h with h | ⟨Y,V,z,H,h4,h5⟩
  ·exact Or.inl h
  ·obtain ⟨W,O,X⟩:=Z _ z;have e:=m (by simp [BX.fix]);exact Or.inr ⟨Y,by rw [e,W];exact V,by rw [e];exact O,λo d=>by rw [e] at d;exact H o (X o d),h4,λi x hx=>(h5 i x hx).mono hd hk⟩
 | _=>trivial
theorem WRel.drawn {Γ:Ctx}{D:Dom}{ow:Own}{μ:Nat->Nat}{st:List BX}{w:World} (h:WRel Γ D ow μ st w) (n:Nat):WRel Γ D ow μ st { w with drawn:=n }/\Moves D w ow μ st D { w with drawn:=n } ow μ st:=by
 have m:Moves D w ow μ st D { w with drawn:=n } ow μ st:=
  ⟨λ_ _ d=>d,Keeps.of_heap λ_ _ _=>rfl,λ_ _ _ e=>⟨rfl,_,e⟩,λ_ _ _ _ e=>⟨rfl,_,e⟩,λ_ _ e _=>⟨rfl,_,e,rfl⟩,λ_ _ _ _ e=>⟨_,_,e,Nat.le_refl _,λ_=>⟨rfl,λz X Y=>⟨rfl,Y,z,X,rfl⟩⟩⟩,λ_ _ e=>⟨_,e,Nat.le_refl _,λ_ _ o=>⟨rfl,o,λ_ d=>d⟩⟩⟩
 refine ⟨⟨λk T s e=>?_,λk K E es e=>?_,λk b e=>(h.obj k b e).mono m.dom m.keeps (λ_=>rfl) (λ_ o=>⟨rfl,o,λ_ d=>d⟩),h.owlt,h.dlt,h.os,h.tape,h.output,h.hs,h.old,h.dom0,h.domN,h.owN,h.np,h.mu0,h.par,h.lone,h.keep0.trans m.keeps h.dom0,h.arr0_moves m h.par⟩,m⟩
 ·obtain ⟨c,O,U,H,M,V,W⟩:=h.box k T s e;exact ⟨c,O,U,H,M,V,W.mono m⟩
 ·exact (h.map k K E es e).mono m.dom m.keeps rfl rfl (by obtain ⟨_,_,_,_,_,H,_⟩:=h.map k K E es e;exact H) (by obtain ⟨_,_,_,_,_,_,M,_⟩:=h.map k K E es e;exact M)
structure Grew (w w':World):Prop where
 heap:∀ b,b<w.heap.size->w'.heap[b]?=w.heap[b]?
 size:w.heap.size<=w'.heap.size
 os:w'.os=w.os
 tape:w'.tape=w.tape
 output:w'.output=w.output
theorem Grew.alloc (w:World) (o:Obj):Grew w (w.alloc o):=⟨λb h=>aa0 w o b h,by simp,rfl,rfl,rfl⟩
theorem Grew.trans {a b c:World} (h:Grew a b) (k:Grew b c):Grew a c:=
 ⟨λx d=>(k.heap x (Aw d h.size)).trans (h.heap x d),Nat.le_trans h.size k.size,k.os.trans h.os,k.tape.trans h.tape,k.output.trans h.output⟩
theorem Grew.drawn (w:World) (n:Nat):Grew w { w with drawn:=n }:=⟨λ_ _=>rfl,Nat.le_refl _,rfl,rfl,rfl⟩
theorem WRel.grew {Γ:Ctx}{D D':Dom}{ow:Own}{μ:Nat->Nat}{st:List BX}{w w':World} (h:WRel Γ D ow μ st w) (g:Grew w w') (Y:∀ b o,D b o->D' b o) (X:∀ b o,D' b o->D b o\/(w.heap.size<=b/\b<w'.heap.size)):
 WRel Γ D' ow μ st w'/\Moves D w ow μ st D' w' ow μ st:=by
 have z:∀ b k,ow b=some k->∀ o,D' b o->D b o:=λb k U o d=>(X b o d).resolve_right (λhh=>by have:=(h.owlt b k U).1;omega)
 have m:Moves D w ow μ st D' w' ow μ st:=
  ⟨Y,Keeps.of_heap λb o d=>g.heap b (h.dlt b o d),λ_ _ _ e=>⟨rfl,_,e⟩,λ_ _ _ _ e=>⟨rfl,_,e⟩,λ_ _ e _=>⟨rfl,_,e,rfl⟩,λk _ _ _ e=>⟨_,_,e,Nat.le_refl _,λ_=>⟨rfl,λV hc U=>⟨rfl,U,V,(g.heap _ (h.owlt _ k U).1).trans hc,rfl⟩⟩⟩,λk g0 e=>⟨_,e,Nat.le_refl _,λ_ b o=>⟨g.heap b (h.owlt b k o).1,o,z b k o⟩⟩⟩
 refine ⟨⟨λk T s e=>?_,λk K E es e=>?_,λk b e=>(h.obj k b e).mono m.dom m.keeps (λ_=>rfl) (λc o=>⟨g.heap c (h.owlt c k o).1,o,z c k o⟩),λb k o=>⟨Aw (h.owlt b k o).1 g.size,(h.owlt b k o).2⟩,λb o d=>?_,g.os.trans h.os,g.tape.trans h.tape,g.output.trans h.output,Nat.le_trans h.hs g.size,
  λb Z hn=>(g.heap b (Aw Z h.hs)).trans (h.old b Z hn),λb o d=>Y b o (h.dom0 b o d),λb o d=>?_,h.owN,h.np,h.mu0,h.par,λb k x ob e hx o d=>h.lone b k x ob e hx o (z b k ob o d),h.keep0.trans m.keeps h.dom0,h.arr0_moves m h.par⟩,m⟩
 ·obtain ⟨c,T',W,M,H,O,h5⟩:=h.box k T s e;exact BoxRep.mono ⟨c,T',W,M,H,O,h5⟩ m rfl (g.heap _ (h.owlt _ _ H).1) H (λo d=>O o (z _ _ H o d))
 ·obtain ⟨ents,clock,kc,vc,W,M,H,O⟩:=h.map k K E es e;exact OMapRep.mono ⟨ents,clock,kc,vc,W,M,H,O⟩ m.dom m.keeps rfl (g.heap _ (h.owlt _ _ M).1) M (λo d=>H o (z _ _ M o d))
 ·rcases X b o d with d | ⟨_,d⟩
  ·exact Aw (h.dlt b o d) g.size
  ·exact d
 ·rcases X b o d with d | ⟨d,_⟩
  ·exact h.domN b o d
  ·exact Or.inr (Or.inl (Nat.le_trans h.hs d))
theorem WRel.pushHole {Γ:Ctx}{D:Dom}{ow:Own}{μ:Nat->Nat}{st:List BX}{w:World} (h:WRel Γ D ow μ st w):WRel Γ D ow μ (st++[.hole]) w/\Moves D w ow μ st D w ow μ (st++[.hole]):=by
 have Y:∀ {k:Nat}{y:BX},st[k]?=some y->k<st.length:=λe=>(A4.1 e).1;have H:∀ {k:Nat}{y:BX},st[k]?=some y->(st++[BX.hole])[k]?=some y:=λ{k y} e=>by grind
 have z:∀ {k:Nat}{y:BX},(st++[BX.hole])[k]?=some y->y≠.hole->st[k]?=some y:=by grind
 have m:Moves D w ow μ st D w ow μ (st++[.hole]):=
  ⟨λ_ _ d=>d,Keeps.refl _ _,λk _ _ e=>⟨rfl,_,H e⟩,λk _ _ _ e=>⟨rfl,_,H e⟩,λk _ e _=>⟨rfl,_,H e,rfl⟩,λk _ _ _ e=>⟨_,_,H e,Nat.le_refl _,λ_=>⟨rfl,ArrKeep.refl _ _ _ _ _⟩⟩,λk g0 e=>⟨_,H e,Nat.le_refl _,λ_ b O=>⟨rfl,O,λ_ d=>d⟩⟩⟩
 have M:∀ k,k<Γ.np->∃ b,(st++[BX.hole])[k]?=some b/\b.kind=Γ.K0 k:=λk W=>by obtain ⟨s,hs,h1⟩:=h.par k W;grind
 refine ⟨⟨λk T s e=>?_,λk K E es e=>h.map k K E es (z e (by simp)),λk b e=>?_,λb k O=>⟨(h.owlt b k O).1,by have:=(h.owlt b k O).2;simp;omega⟩,h.dlt,h.os,h.tape,h.output,h.hs,h.old,h.dom0,h.domN,h.owN,by grind,h.mu0,M,λb k y O e X o d=>?_,h.keep0.trans m.keeps h.dom0,h.arr0_moves m M⟩,m⟩
 ·obtain ⟨c,V,Z,q2,q3,q4,q5⟩:=h.box k T s (z e (by simp));exact ⟨c,V,Z,q2,q3,q4,q5.mono m⟩
 ·cases b with
  | hole=>trivial
  | _=>exact (h.obj k _ (z e (by simp))).mono m.dom m.keeps (λ_=>rfl) (λ_ o=>⟨rfl,o,λ_ d=>d⟩)
 ·have U:=(h.owlt b k O).2;rw [A5 U] at e;exact h.lone b k y O e X o d
theorem WRel.pushHoles {Γ:Ctx}{D:Dom}{ow:Own}{μ:Nat->Nat}{w:World}:∀ (n:Nat) {st:List BX},WRel Γ D ow μ st w->WRel Γ D ow μ (st++List.replicate n .hole) w/\∀ {s:SV}{v:Value},SRep Γ.P D w ow μ st s v->SRep Γ.P D w ow μ (st++List.replicate n .hole) s v:=by
 intro n;induction n with
 | zero=>grind
 | succ n M=>
  intro st h;obtain ⟨d,m⟩:=h.pushHole;obtain ⟨o,z⟩:=M d;have e:st++List.replicate (n+1) BX.hole=st++[.hole]++List.replicate n .hole:=by grind
  rw [e];exact ⟨o,λH=>z (H.mono m)⟩
def aq6 (np:Nat) (st:List BX) (k:Nat) (x:BX) (st':List BX):Prop:=(k=st.length/\st'=st++[x])\/(st[k]?=some .hole/\st'=st.set k x/\np<=k)
theorem WRel.newOwnAt {Γ:Ctx}{D:Dom}{ow:Own}{μ:Nat->Nat}{st st':List BX}{z:Nat}{w:World} (h:WRel Γ D ow μ st w) (o:Obj) (x:BX)
 (hx:Moves D w ow μ st D (w.alloc o) (upd ow w.heap.size (some z)) (upd μ z w.heap.size) st'->
  match x with
  | .box T s=>BoxRep Γ.P D (w.alloc o) (upd ow w.heap.size (some z)) (upd μ z w.heap.size) st' z T s
  | .map K E es=>OMapRep Γ.P D (w.alloc o) (upd ow w.heap.size (some z)) (upd μ z w.heap.size) z K E es
  | .iter s p=>ObjRep Γ.P D (w.alloc o) (upd ow w.heap.size (some z)) (upd μ z w.heap.size) z (.iter s p)
  | .bld T bs=>ObjRep Γ.P D (w.alloc o) (upd ow w.heap.size (some z)) (upd μ z w.heap.size) z (.bld T bs)
  | .arr E g xs=>ObjRep Γ.P D (w.alloc o) (upd ow w.heap.size (some z)) (upd μ z w.heap.size) z (.arr E g xs)
  | .acc _=>True
  | .hole=>True) (W:aq6 Γ.np st z x st'):
 st'[z]?=some x/\WRel Γ D (upd ow w.heap.size (some z)) (upd μ z w.heap.size) st' (w.alloc o)/\
  Moves D w ow μ st D (w.alloc o) (upd ow w.heap.size (some z)) (upd μ z w.heap.size) st':=by
 have g:=Grew.alloc w o
 have ag:∀ {k:Nat}{y:BX},st[k]?=some y->k<st.length:=λe=>(A4.1 e).1
 have H:∀ {k:Nat}{y:BX},st[k]?=some y->y≠.hole->st'[k]?=some y/\k≠z:=by intro k y e hy;rcases W with ⟨rfl,rfl⟩ | ⟨X,rfl,_⟩;all_goals grind
 have aa:st'[z]?=some x:=by rcases W with ⟨rfl,rfl⟩ | ⟨X,rfl,_⟩;all_goals grind
 have V:∀ {k:Nat}{y:BX},st'[k]?=some y->k≠z->st[k]?=some y:=by intro k y e M;rcases W with ⟨rfl,rfl⟩ | ⟨X,rfl,_⟩;all_goals grind
 have len:st.length<=st'.length/\z<st'.length:=by rcases W with ⟨rfl,rfl⟩ | ⟨X,rfl,_⟩;all_goals grind
 have af:Γ.np<=z:=by
  rcases W with ⟨rfl,rfl⟩ | ⟨X,rfl,h2⟩
  ·exact h.np
  ·exact h2
 have ae:∀ b,ow b=some z->∀ o,¬D b o:=by
  intro b O o d;rcases W with ⟨rfl,rfl⟩ | ⟨X,rfl,h2⟩
  ·have:=(h.owlt b _ O).2;omega
  ·exact h.lone b z _ O X (by simp) o d
 have m:Moves D w ow μ st D (w.alloc o) (upd ow w.heap.size (some z)) (upd μ z w.heap.size) st':=by
  refine ⟨λ_ _ d=>d,Keeps.of_heap λb o d=>g.heap b (h.dlt b o d),λk _ _ e=>⟨aap _ _ (H e (by simp)).2,_,(H e (by simp)).1⟩,λk _ _ _ e=>⟨aap _ _ (H e (by simp)).2,_,(H e (by simp)).1⟩,
   λk b e hs=>?_,λk E g1 xs e=>⟨g1,xs,(H e (by simp)).1,Nat.le_refl _,λ_=>⟨rfl,λab hc ho=>?_⟩⟩,λk g0 e=>⟨_,(H e (by simp)).1,Nat.le_refl _,λ_ b O=>⟨g.heap b (h.owlt b k O).1,?_,λ_ d=>d⟩⟩⟩
  ·have hy:b≠.hole:=λhh=>by subst hh;exact hs rfl
   exact ⟨aap _ _ (H e hy).2,_,(H e hy).1,rfl⟩
  ·have U:=(h.owlt _ k ho).1;exact ⟨aap _ _ (H e (by simp)).2,by grind [aap],ab,(g.heap _ U).trans hc,rfl⟩
  ·rw [aap _ _ (by have:=(h.owlt b k O).1;omega)];exact O
 have hx:=hx m
 have Z:∀ k,k<Γ.np->∃ b,st'[k]?=some b/\b.kind=Γ.K0 k:=by intro k M;obtain ⟨s,hs,X⟩:=h.par k M;grind
 refine ⟨aa,⟨λk T s e=>?_,λk K E es e=>?_,λk b e=>?_,λb k O=>?_,λb o d=>Aw (h.dlt b o d) g.size,h.os,h.tape,h.output,Nat.le_trans h.hs g.size,λb Y hn=>(g.heap b (Aw Y h.hs)).trans (h.old b Y hn),h.dom0,h.domN,
  λb k O Y=>?_,Nat.le_trans h.np len.1,λk M hK=>?_,Z,λb k y O e hy o d=>?_,h.keep0.trans m.keeps h.dom0,h.arr0_moves m Z⟩,m⟩
 ·by_cases M:k=z
  ·grind
  ·obtain ⟨c,T',X,h2,h3,h4,h5⟩:=h.box k T s (V e M);have U:=(h.owlt _ _ h3).1;exact BoxRep.mono ⟨c,T',X,h2,h3,h4,h5⟩ m (aap _ _ M) (g.heap _ U) (by grind [aap]) h4
 ·by_cases M:k=z
  ·grind
  ·obtain ⟨ents,clock,kc,vc,X,h2,h3,h4⟩:=h.map k K E es (V e M);have U:=(h.owlt _ _ h2).1;exact OMapRep.mono ⟨ents,clock,kc,vc,X,h2,h3,h4⟩ m.dom m.keeps (aap _ _ M) (g.heap _ U) (by grind [aap]) h3
 ·by_cases M:k=z
  ·subst M;rw [aa] at e;cases e;cases x<;>first | exact hx | trivial
  ·refine (h.obj k b (V e M)).mono m.dom m.keeps (λ_=>aap _ _ M) (λc oc=>?_);have U:=(h.owlt c k oc).1;exact ⟨g.heap _ U,by grind [aap],λ_ d=>d⟩
 ·by_cases Y:b=w.heap.size
  ·subst Y;rw [aah] at O;simp_all
  ·rw [aap _ _ Y] at O;have:=h.owlt b k O;have:=g.size;grind
 ·have ad:b≠w.heap.size:=by have:=h.hs;omega
  rw [aap _ _ ad] at O;exact h.owN b k O Y
 ·rw [aap _ _ (by omega)];exact h.mu0 k M hK
 ·by_cases Y:b=w.heap.size
  ·have:=h.dlt b o d;omega
  ·rw [aap _ _ Y] at O;by_cases M:k=z
   ·grind
   ·exact h.lone b k y O (V e M) hy o d
theorem WRel.newOwn {Γ:Ctx}{D:Dom}{ow:Own}{μ:Nat->Nat}{st:List BX}{w:World} (h:WRel Γ D ow μ st w) (o:Obj) (x:BX)
 (d:Moves D w ow μ st D (w.alloc o) (upd ow w.heap.size (some st.length)) (upd μ st.length w.heap.size) (st++[x])->
  match x with
  | .box T s=>BoxRep Γ.P D (w.alloc o) (upd ow w.heap.size (some st.length)) (upd μ st.length w.heap.size) (st++[x]) st.length T s
  | .map K E es=>OMapRep Γ.P D (w.alloc o) (upd ow w.heap.size (some st.length)) (upd μ st.length w.heap.size) st.length K E es
  | .iter s p=>ObjRep Γ.P D (w.alloc o) (upd ow w.heap.size (some st.length)) (upd μ st.length w.heap.size) st.length (.iter s p)
  | .bld T bs=>ObjRep Γ.P D (w.alloc o) (upd ow w.heap.size (some st.length)) (upd μ st.length w.heap.size) st.length (.bld T bs)
  | .arr E g xs=>ObjRep Γ.P D (w.alloc o) (upd ow w.heap.size (some st.length)) (upd μ st.length w.heap.size) st.length (.arr E g xs)
  | .acc _=>True
  | .hole=>True):
 WRel Γ D (upd ow w.heap.size (some st.length)) (upd μ st.length w.heap.size) (st++[x]) (w.alloc o)/\
  Moves D w ow μ st D (w.alloc o) (upd ow w.heap.size (some st.length)) (upd μ st.length w.heap.size) (st++[x]):=
 (h.newOwnAt o x d (Or.inl ⟨rfl,rfl⟩)).2
end Go.Ab
