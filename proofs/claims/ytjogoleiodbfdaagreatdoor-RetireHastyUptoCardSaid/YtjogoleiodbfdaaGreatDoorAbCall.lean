/- Calls by contract. -/
import Derived.Test.YtjogoleiodbfdaaGreatDoorAbStep
set_option linter.unusedVariables false
set_option linter.unusedSimpArgs false
set_option linter.unnecessarySimpa false
namespace Go.Ab
open Go
def ay0 (P:Program) (D:Dom) (w:World) (s:SV) (v:Value):Prop:=∀ (ow:Own) (μ:Nat->Nat) (st:List BX),SRep P D w ow μ st s v
def ObjIn (P:Program) (D:Dom) (w:World) (ow:Own) (μ:Nat->Nat) (st:List BX) (k:Nat):BX->Prop
 | .box T s=>BoxRep P D w ow μ st k T s
 | .map K E es=>OMapRep P D w ow μ k K E es
 | .acc _=>True
 | .iter s p=>ObjRep P D w ow μ k (.iter s p)
 | .bld T bs=>ObjRep P D w ow μ k (.bld T bs)
 | .arr E g xs=>ObjRep P D w ow μ k (.arr E g xs)
 | .mit K E c es=>ObjRep P D w ow μ k (.mit K E c es)
 | .hole=>True
structure Objs (P:Program) (D:Dom) (ow:Own) (μ:Nat->Nat) (st:List BX) (w:World):Prop where
 obj:∀ (k:Nat) (b:BX),st[k]?=some b->ObjIn P D w ow μ st k b
 owlt:∀ b k,ow b=some k->b<w.heap.size/\k<st.length
 dlt:∀ b o,D b o->b<w.heap.size
 lone:∀ (b k:Nat) (x:BX),ow b=some k->st[k]?=some x->(∀ g,x≠.acc g)->∀ o,¬D b o
structure Pre (P:Program) (D:Dom) (ow:Own) (μ:Nat->Nat) (st:List BX) (w:World) (as:List SV) (vals:Array Value):Prop where
 size:vals.size=as.length
 arg:∀ (i:Nat) (s:SV) (v:Value),as[i]?=some s->vals[i]?=some v->SRep P D w ow μ st s v
 objs:Objs P D ow μ st w
 tabs:Tabs P ow w
theorem Pre.dlt {P:Program}{D:Dom}{ow:Own}{μ:Nat->Nat}{st:List BX}{w:World}{I:List SV}{h:Array Value} (H:Pre P D ow μ st w I h):∀ b o,D b o->b<w.heap.size:=H.objs.dlt
def ag4 (rs:List SV) (v:Value):Ending:=
 match rs with
 | [.pan _]=>.panicked [{ v,recovered:=false }]
 | _=>.returned v
def agz (P:Program) (D:Dom) (w:World) (ow:Own) (μ:Nat->Nat) (st:List BX) (rs:List SV) (v:Value):Prop:=
 match rs with
 | [.pan s]=>SRep P D w ow μ st s v
 | rs=>SRep P D w ow μ st (ac9 rs) v
theorem af4 {P:Program}{D:Dom}{w:World}{ow:Own}{μ:Nat->Nat}{st:List BX}{rs:List SV}{v:Value} (h:SRep P D w ow μ st (ac9 rs) v):agz P D w ow μ st rs v/\ag4 rs v=.returned v:=by
 unfold agz ag4;split
 ·cases h
 grind
theorem ab0 {P:Program}{D:Dom}{w:World}{ow:Own}{μ:Nat->Nat}{st:List BX}{rs:List SV}{v:Value} (h:agz P D w ow μ st rs v):
 (∃ s,rs=[.pan s]/\SRep P D w ow μ st s v/\ag4 rs v=.panicked [{ v,recovered:=false }])\/((∀ s,rs≠[.pan s])/\SRep P D w ow μ st (ac9 rs) v/\ag4 rs v=.returned v):=by
 unfold agz at h
 split at h
 ·rename_i s;exact Or.inl ⟨s,rfl,h,rfl⟩
 ·rename_i o;refine Or.inr ⟨λs e=>o s e,h,?_⟩;unfold ag4;grind
structure Rest (P:Program) (D:Dom) (w:World) (ow:Own) (μ:Nat->Nat) (st:List BX) (rs:List SV) (st':List BX) (v:Value) (D':Dom) (w':World) (ow':Own) (μ':Nat->Nat):Prop where
 objs:Objs P D' ow' μ' st' w'
 res:agz P D' w' ow' μ' st' rs v
 own:∀ b k,ow' b=some k->b<w.heap.size->ow b=some k
 keep:∀ (k:Nat) (b:BX),st[k]?=some b->∃ b',st'[k]?=some b'/\b'.kind=b.kind/\((∀ g,b≠.acc g)->(∀ E g xs,b≠.arr E g xs)->μ' k=μ k)
 same:∀ (k:Nat) (E:TypeId) (g:Nat) (xs ys:List PV),st[k]?=some (.arr E g xs)->st'[k]?=some (.arr E 0 ys)->ys.length=xs.length/\ArrKeep w ow μ w' ow' μ' k E
structure Post (P:Program) (D:Dom) (w:World) (ow:Own) (μ:Nat->Nat) (st:List BX) (rs:List SV) (st':List BX) (v:Value) (D':Dom) (w':World):Prop where
 dom:∀ b o,D b o->D' b o
 new:∀ b o,D' b o->D b o\/w.heap.size<=b\/ow b≠none
 rest:∃ (ow':Own) (μ':Nat->Nat),Rest P D w ow μ st rs st' v D' w' ow' μ'
 os:w'.os=w.os
 tape:w'.tape=w.tape
 output:w'.output=w.output
 size:w.heap.size<=w'.heap.size
 old:∀ b,b<w.heap.size->ow b=none->w'.heap[b]?=w.heap[b]?
 keeps:Keeps D w w'
def alq (P:Program) (f:FuncId):Prop:=∀ (args:Array Value) (w:World),(callFunc f args).run P w=.ok (.enter f args) w
def Meets (P:Program) (f:FuncId) (o:List SV) (st:List BX) (rs:List SV) (st':List BX):Prop:=
 alq P f/\∀ (D:Dom) (ow:Own) (μ:Nat->Nat) (w:World) (h:Array Value),Pre P D ow μ st w o h->
  Calls P f h w λe w'=>∃ v D',e=ag4 rs v/\Post P D w ow μ st rs st' v D' w'
theorem abf {P:Program}{f:FuncId}{fn:Func} (H:P.funcs[f]?=some fn) (I:(fn.name== "runtime.NumGoroutine")=false) (J:fn.body.isNone=false):alq P f:=by
 intro args w;have o:fn.name≠ "runtime.NumGoroutine":=by simpa using I
 have h:fn.body≠none:=λe=>by grind
 simp [callFunc,H,o,h]
theorem aly {b:BX}{T:TypeId}{s:SV} (h:b.kind=(BX.box T s).kind):∃ o,b=.box T o:=by cases b<;>simp [BX.kind] at h;simp_all
theorem awe {b:BX}{T:TypeId}{s:Bt} (h:b.kind=(BX.bld T s).kind):∃ o,b=.bld T o:=by cases b<;>simp [BX.kind] at h;simp_all
theorem awf {b:BX}{K E:TypeId}{s:List (PV×PV)} (h:b.kind=(BX.map K E s).kind):∃ o,b=.map K E o:=by cases b<;>simp [BX.kind] at h;simp_all
theorem a0u {b:BX}{s:Bt}{p:Nat} (h:b.kind=(BX.iter s p).kind):∃ o p',b=.iter o p':=by cases b<;>simp [BX.kind] at h;grind
theorem a4v {b:BX}{g:Nat} (h:b.kind=(BX.acc g).kind):∃ o,b=.acc o:=by cases b<;>simp [BX.kind] at h;grind
theorem ar4 {b o:BX} (h:o.kind=b.kind) (I:∀ E g xs,b≠.arr E g xs):∀ E g xs,o≠.arr E g xs:=by intro E g xs e;subst e;obtain ⟨H,ys,rfl⟩:=ah2 h.symm;grind
theorem afr {b o:BX} (h:o.kind=b.kind) (H:∀ g,b≠.acc g):∀ g,o≠.acc g:=by intro g e;subst e;cases b<;>simp [BX.kind] at h;exact H _ rfl
section
variable {Γ:Ctx}{D:Dom}{ow:Own}{μ:Nat->Nat}{st:List BX}{w:World}
theorem acd {P:Program}{T:Option TypeId}{s J:SV}{v:Value} (h:SRep P D w ow μ st s v) (o:ajb P T s=some J):ay0 P D w J v:=by
 intro aa ab st';unfold ajb at o;split at o
 ·simp only [Al] at o;subst o;cases h;exact .bool
 ·simp only [Al] at o;subst o;cases h;exact .int
 ·simp only [Al] at o;subst o;cases h;exact .str
 ·simp only [Al] at o;subst o;cases h with | slice h=>exact .slice h
 ·simp only [Al] at o;subst o;cases h with | data h1 h2=>exact .data h1 h2
 ·simp only [Al] at o;subst o;cases h with | map h=>exact .map h
 ·simp only [Al] at o;subst o;cases h;exact .raw
 ·simp only [Al] at o;subst o;cases h with | pto h1 h2=>exact .pto h1 h2
 ·simp only [Al] at o;subst o;cases h with | eif h1 h2=>exact .eif h1 h2
 ·simp only [Al] at o;subst o;cases h with | acc h=>exact .slice h
 ·simp only [Al] at o;subst o;cases h with | lit h=>exact .slice h
 ·simp only [Al] at o;subst o;cases h with | sln h=>exact .slice h
 ·split at o
  ·split at o
   ·simp only [Al] at o;subst o;cases h;exact .slice (.nil λ_=>rfl)
   ·simp at o
  ·simp at o
 ·rename_i H M;cases I:isOf P H (.agg H M) with
  | false=>rw [I] at o;simp at o
  | true=>
   rw [I] at o;simp only [Af,Al] at o;subst o;have Z:=aba h H I;cases h with
   | agg O=>exact .data (by simp [aal,O]) (by simpa [Value.cells] using Z)
 ·simp at o
structure Emb (ρ:Nat->Option Nat) (γ:Nat->Nat) (ow1:Own) (μ1:Nat->Nat) (st1:List BX) (ow2:Own) (μ2:Nat->Nat) (st2:List BX):Prop where
 obj:∀ (j k:Nat) (b:BX),ρ j=some k->st1[j]?=some b->∃ b',st2[k]?=some b'/\b'.kind=b.kind/\((∀ g,b≠.acc g)->μ2 k=μ1 j)/\((∃ g,b=.acc g)->b'=.acc (γ j))/\(∀ E g xs,b=.arr E g xs->b'=.arr E (γ j) xs)
 own:∀ (j k b:Nat),ρ j=some k->ow1 b=some j->ow2 b=some k
theorem ahn {st:List BX}{I:Nat->Option Nat}{H:Nat->Nat}:∀ {l o:List SV},renL st I H l=some o->o.length=l.length/\∀ (i:Nat) (x:SV),o[i]?=some x->∃ y,l[i]?=some y/\renS st I H y=some x:=by
 intro l;induction l with
 | nil=>intro o h;simp only [renL,Al] at h;grind
 | cons s r J=>intro o h;simp only [renL] at h;grind
theorem aek {P:Program}{ρ:Nat->Option Nat}{γ:Nat->Nat}{ae:Own}{ag:Nat->Nat}{af:List BX} (m:Emb ρ γ ow μ st ae ag af) {s:SV}{v:Value} (h:SRep P D w ow μ st s v):∀ {I:SV},renS st ρ γ s=some I->SRep P D w ae ag af I v:=by
 induction h with
 | undef=>intro I o;simp only [renS,Al] at o;subst o;exact .undef
 | bool=>intro I o;simp only [renS,Al] at o;subst o;exact .bool
 | int=>intro I o;simp only [renS,Al] at o;subst o;exact .int
 | str=>intro I o;simp only [renS,Al] at o;subst o;exact .str
 | slice h=>intro I o;simp only [renS,Al] at o;subst o;exact .slice h
 | data hT h=>intro I o;simp only [renS,Al] at o;subst o;exact .data hT h
 | agg hT hl ho hv _ ih=>
  intro I o;simp only [renS] at o;split at o
  ·rename_i gs hg;simp only [Al] at o;subst o;obtain ⟨J,O⟩:=ahn hg;refine .agg hT hl ho (by rw [J];exact hv) (λi x f hx hf=>?_);obtain ⟨y,hy,ab⟩:=O i x hx;exact ih i y f hy hf ab
  ·cases o
 | map h=>intro I o;simp only [renS,Al] at o;subst o;exact .map h
 | nils=>intro I o;simp only [renS,Al] at o;subst o;exact .nils
 | lit h=>intro I o;simp only [renS,Al] at o;subst o;exact .slice h
 | sln h=>intro I o;simp only [renS,Al] at o;subst o;exact .slice h
 | mitr M=>intro I o;simp [renS] at o
 | @acc k g g0 E xs v h M hg ho=>
  intro I o;simp only [renS,Al] at o;split at o
  ·rename_i Z H;cases ha:an0 st k g with
   | false=>rw [ha] at o;simp only [Ah] at o;subst o;exact .slice h
   | true=>
    rw [ha] at o;simp only [Af] at o;subst o;obtain ⟨b',J,O,h3,h4,_⟩:=m.obj k Z _ H M;rw [h4 ⟨_,rfl⟩] at J;refine .acc h J (Nat.le_refl _) (λ_=>?_);have ah:g=g0:=by unfold an0 at ha;rw [M] at ha;exact Ae ha
    rcases ho ah with ho | ⟨b,cap,aa,q1,q2,q3,q4,q5,q6,q7⟩
    ·exact Or.inl ho
    ·exact Or.inr ⟨b,cap,aa,q1,q2,q3,q4,q5,m.own k Z b H q6,q7⟩
  ·subst o;exact .slice h
 | ref M hp=>
  intro I o;simp only [renS] at o;split at o
  ·rename_i Z H;simp only [Al] at o;subst o;obtain ⟨b',J,O,h3,_⟩:=m.obj _ Z _ H M;obtain ⟨s1,rfl⟩:=aly O;rw [<-h3 (by simp)];exact .ref J hp
  ·cases o
 | mref M=>
  intro I o;simp only [renS] at o;split at o
  ·rename_i Z H;simp only [Al] at o;subst o;obtain ⟨b',J,O,h3,_⟩:=m.obj _ Z _ H M;obtain ⟨s1,rfl⟩:=awf O;rw [<-h3 (by simp)];exact .mref J
  ·cases o
 | iref M=>intro I o;simp [renS] at o
 | bref M=>
  intro I o;simp only [renS] at o;split at o
  ·rename_i Z H;simp only [Al] at o;subst o;obtain ⟨b',J,O,h3,_⟩:=m.obj _ Z _ H M;obtain ⟨s1,rfl⟩:=awe O;rw [<-h3 (by simp)];exact .bref J
  ·cases o
 | nx J O=>intro I o;simp [renS] at o
 | eif J O=>intro I o;simp only [renS,Al] at o;subst o;exact .eif J O
 | ifc _ ih=>
  intro I o;simp only [renS] at o;split at o
  ·rename_i x hx;simp only [Al] at o;subst o;exact .ifc (ih hx)
  ·cases o
 | pto J O=>intro I o;simp only [renS,Al] at o;subst o;exact .pto J O
 | fn ak ad _ ih=>
  intro I o;simp only [renS] at o;split at o
  ·rename_i gs hg;simp only [Al] at o;subst o;obtain ⟨J,O⟩:=ahn hg;refine .fn ak (by rw [J];exact ad) (λi x u hx hu=>?_);obtain ⟨y,hy,ab⟩:=O i x hx;exact ih i y u hy hu ab
  ·cases o
 | tup ad _ ih=>intro I o;simp [renS] at o
 | raw=>intro I o;simp only [renS,Al] at o;subst o;exact .raw
 | eref M hT hi=>
  intro I o;simp only [renS] at o;split at o
  ·rename_i Z H;simp only [Al] at o;subst o;obtain ⟨b',J,O,h3,_⟩:=m.obj _ Z _ H M;obtain ⟨s1,rfl⟩:=aly O;rw [<-h3 (by simp)];exact .eref J hT hi
  ·cases o
 | asl M hT hi hc=>
  intro I o;simp only [renS] at o;split at o
  ·rename_i Z H;simp only [Al] at o;subst o;obtain ⟨b',J,O,h3,_⟩:=m.obj _ Z _ H M;obtain ⟨s1,rfl⟩:=aly O;rw [<-h3 (by simp)];exact .asl J hT hi hc
  ·cases o
 | @arrOld k g g0 E E' xs v M ai ho=>
  intro I o;simp only [renS] at o;split at o
  ·have:aew st k g=false:=by
    unfold aew;rw [M];show Nat.beq g g0=false;cases hb:Nat.beq g g0 with
    | false=>rfl
    | true=>have:=Ae hb;omega
   rw [this] at o;cases o
  ·cases o
 | @arrNil k g E a M=>
  intro I o;simp only [renS] at o;split at o
  ·rename_i Z H;cases ha:aew st k g with
   | false=>rw [ha] at o;cases o
   | true=>rw [ha] at o;simp only [Af,Al] at o;subst o;obtain ⟨b',J,O,h3,_,h5⟩:=m.obj k Z _ H M;rw [h5 _ _ _ rfl] at J;exact .arrNil J
  ·cases o
 | @arr k g cap E xs aa M hl aj hc ho al=>
  intro I o;simp only [renS] at o;split at o
  ·rename_i Z H;cases ha:aew st k g with
   | false=>rw [ha] at o;cases o
   | true=>rw [ha] at o;simp only [Af,Al] at o;subst o;obtain ⟨b',J,O,h3,_,h5⟩:=m.obj k Z _ H M;rw [h5 _ _ _ rfl] at J;have e:=h3 (by simp);rw [<-e];exact .arr J hl aj (by rw [e];exact hc) (by rw [e];exact m.own k Z _ H ho) al
  ·cases o
 | @arefOld k g g0 i E E' T path xs v M ai ho=>
  intro I o;simp only [renS] at o;split at o
  ·have:aew st k g=false:=by
    unfold aew;rw [M];show Nat.beq g g0=false;cases hb:Nat.beq g g0 with
    | false=>rfl
    | true=>have:=Ae hb;omega
   rw [this] at o;cases o
  ·cases o
 | @aref k g i off E T path xs aa M hl hp hc ho=>
  intro I o;simp only [renS] at o;split at o
  ·rename_i Z H;cases ha:aew st k g with
   | false=>rw [ha] at o;cases o
   | true=>rw [ha] at o;simp only [Af,Al] at o;subst o;obtain ⟨b',J,O,h3,_,h5⟩:=m.obj k Z _ H M;rw [h5 _ _ _ rfl] at J;have e:=h3 (by simp);rw [<-e];exact .aref J hl hp (by rw [e];exact hc) (by rw [e];exact m.own k Z _ H ho)
  ·cases o
theorem asm {P:Program}{ρ:Nat->Option Nat}{γ:Nat->Nat}{I:Own}{M:Nat->Nat}{J:List BX} (m:Emb ρ γ ow μ st I M J) {rs o:List SV}{v:Value} (h:SRep P D w ow μ st (ac9 rs) v) (hr:renL st ρ γ rs=some o):SRep P D w I M J (ac9 o) v:=by
 obtain ⟨h1,h2⟩:=ahn hr;by_cases H:rs.length=1
 ·match rs,H,o,h1 with
  | [s],_,[s'],_=>obtain ⟨y,hy,O⟩:=h2 0 s' rfl;simp at hy;subst hy;exact aek m h O
 ·have Z:∀ l:List SV,l.length≠1->ac9 l=.tup l:=by
   intro l H;match l,H with
   | [],_=>rfl
   | [x],H=>grind
   | x::y::r,_=>rfl
  rw [Z rs H] at h;rw [Z o (by omega)];cases h with
  | tup hs aa=>refine .tup (by grind) (λi x u hx hu=>?_);grind [aek]
theorem ayj {P:Program}{ρ:Nat->Option Nat}{γ:Nat->Nat}{I:Own}{M:Nat->Nat}{J:List BX} (m:Emb ρ γ ow μ st I M J) {rs o:List SV}{v:Value} (h:agz P D w ow μ st rs v) (H:renL st ρ γ rs=some o):agz P D w I M J o v/\ag4 o v=ag4 rs v:=by
 rcases ab0 h with ⟨s,rfl,Z,h2⟩ | ⟨aa,Z,h2⟩
 ·simp only [renL,renS] at H;split at H
  ·rename_i x q O hq;simp only [Al] at hq H;subst hq;subst H;split at O
   ·rename_i y hy;simp only [Al] at O;subst O;exact ⟨aek m Z hy,rfl⟩
   ·cases O
  ·cases H
 all_goals grind [af4,asm]
theorem acm {O:Nat->Option Nat}{I:Nat->Nat}{k:Nat}{b H:BX} (h:ahm st O I k b=some H):H.kind=b.kind/\((∃ g,b=.acc g)->H=.acc (I k))/\(∀ E g xs,b=.arr E g xs->H=.arr E (I k) xs):=by
 unfold ahm at h;split at h
 ·split at h
  ·cases h;exact ⟨rfl,(λ⟨g,o⟩=>by cases o),λE g xs e=>by cases e⟩
  ·cases h
 ·cases h;exact ⟨rfl,λ_=>rfl,λE g xs e=>by cases e⟩
 ·cases h;exact ⟨rfl,(λ⟨g,o⟩=>by cases o),λE g xs e=>by cases e;rfl⟩
 ·cases h
 ·cases h
 ·rename_i Z J M h4 h5;cases h;exact ⟨rfl,λ⟨g,o⟩=>absurd o (J g),λE g xs e=>absurd e (M E g xs)⟩
theorem ObjIn.ren {P:Program}{ρ:Nat->Option Nat}{γ:Nat->Nat}{M:Own}{aa:Nat->Nat}{ab:List BX} (m:Emb ρ γ ow μ st M aa ab) {j k:Nat}{b b':BX} (hj:st[j]?=some b) (hk:ρ j=some k) (h:ObjIn P D w ow μ st j b) (o:ahm st ρ γ j b=some b'):ObjIn P D w M aa ab k b':=by
 obtain ⟨b2,_,_,H,_⟩:=m.obj j k b hk hj;cases b with
 | box T s=>
  simp only [ahm] at o;split at o
  ·rename_i x hx;cases o;have e:=H (by simp);obtain ⟨I,T',O,Z,q3,q4,q5⟩:=h;exact ⟨I,T',by rw [e];exact O,Z,by rw [e];exact m.own j k _ hk q3,by rw [e];exact q4,aek m q5 hx⟩
  ·cases o
 | map K E es=>simp only [ahm,Al] at o;subst o;have e:=H (by simp);obtain ⟨ents,clock,kc,vc,O,Z,q3,q4⟩:=h;exact ⟨ents,clock,kc,vc,by rw [e];exact O,by rw [e];exact m.own j k _ hk Z,by rw [e];exact q3,q4⟩
 | acc g=>simp only [ahm,Al] at o;subst o;trivial
 | hole=>simp only [ahm,Al] at o;subst o;trivial
 | iter s p=>simp [ahm] at o
 | mit K E es=>simp [ahm] at o
 | bld T bs=>
  simp only [ahm,Al] at o;subst o;have e:=H (by simp);obtain ⟨p,v,O,Z,q3,q4,q5⟩:=h;refine ⟨p,v,by rw [e];exact O,by rw [e];exact Z,by rw [e];exact m.own j k _ hk q3,by rw [e];exact q4,?_⟩;rcases q5 with q5 | ⟨g,cap,J,fz,a1,a2,a4,a5,a6,a7,a8,a9,ad,ae⟩
  ·exact Or.inl q5
  ·exact Or.inr ⟨g,cap,J,fz,a1,a2,a4,a5,a6,a7,a8,by rw [e];exact a9,m.own j k _ hk ad,ae⟩
 | arr E g xs=>
  simp only [ahm,Al] at o;subst o;have e:=H (by simp);have h0:avh P D w ow μ j E xs:=h;show avh P D w M aa k E xs;rcases h0 with h0 | ⟨J,O,Z,q3,q4,q5⟩
  ·exact Or.inl h0
  ·exact Or.inr ⟨J,by rw [e];exact O,by rw [e];exact m.own j k _ hk Z,by rw [e];exact q3,q4,q5⟩
theorem ag0:∀ (l ks:List Nat),ks.Nodup->(afe ks l).Nodup:=by
 intro l;induction l with
 | nil=>intro ks h;exact h
 | cons k r o=>
  intro ks h;unfold afe;refine o _ ?_;cases H:ks.any (Nat.beq k) with
  | true=>simpa using h
  | false=>simp only [Ah];grind [List.nodup_append,Nat.beq,List.any_eq_true,Nat.beq_refl]
theorem af7:∀ (l ks:List Nat),∃ r,afe ks l=ks++r:=by
 intro l;induction l with
 | nil=>intro ks;exact ⟨[],by simp [afe]⟩
 | cons k r h=>intro ks;unfold afe;obtain ⟨q,o⟩:=h (bif ks.any (Nat.beq k) then ks else ks++[k]);grind
theorem ani:∀ (n:Nat) (ks:List Nat),ks.Nodup->(auo st n ks).Nodup:=by
 intro n;induction n with
 | zero=>intro ks h;exact h
 | succ n o=>intro ks h;exact o _ (ag0 _ _ h)
theorem alh:∀ (n:Nat) (ks:List Nat),∃ r,auo st n ks=ks++r:=by
 intro n;induction n with
 | zero=>intro ks;exact ⟨[],by simp [auo]⟩
 | succ n h=>intro ks;obtain ⟨r,H⟩:=h (afe ks (ks.flatMap (a0y st)));obtain ⟨q,o⟩:=af7 (ks.flatMap (a0y st)) ks;grind [auo,List.append_assoc]
theorem adm (st:List BX) (args:List SV):(aar st args).Nodup:=ani _ _ (ag0 _ _ (by simp))
theorem ak9 (st:List BX) (np:Nat) (h:List SV):(afl st np h).Nodup:=ani _ _ (ag0 _ _ List.nodup_range)
theorem ajg (st:List BX) (np:Nat) (h:List SV):∃ r,afl st np h=List.range np++r:=by obtain ⟨r,H⟩:=alh (st:=st) 4 (afe (List.range np) (aft false st h));obtain ⟨q,o⟩:=af7 (aft false st h) (List.range np);grind [afl,List.append_assoc]
theorem auw {st:List BX}{args:List SV} (h:aar st args=[]):aft false st args=[]:=by
 obtain ⟨r,I⟩:=alh (st:=st) 4 (afe [] (aft false st args));unfold aar at h;rw [I] at h;have o:=(List.append_eq_nil_iff.1 h).1;cases H:aft false st args with
 | nil=>rfl
 | cons k r=>rw [H] at o;unfold afe at o;obtain ⟨q,J⟩:=af7 r (bif ([]:List Nat).any (Nat.beq k) then [] else []++[k]);grind
theorem ap0 {k:Nat}:∀ {ks:List Nat},ks.any (Nat.beq k)=true->ks[idx k ks]?=some k:=by
 intro ks;induction ks with
 | nil=>grind
 | cons x r H=>
  intro h;unfold idx;cases o:Nat.beq k x with
  | true=>grind [Nat.eq_of_beq_eq_true]
  | false=>grind
theorem akk {ks:List Nat}{k j:Nat} (h:ace ks k=some j):ks[j]?=some k:=by
 unfold ace at h;cases o:ks.any (Nat.beq k) with
 | false=>grind
 | true=>rw [o] at h;simp only [Af,Al] at h;grind [ap0]
theorem am6 {ks:List Nat} (H:ks.Nodup) {i j k:Nat} (h:ks[i]?=some k) (o:ks[j]?=some k):i=j:=by grind [List.getElem?_eq_some_iff,Nat.lt_trichotomy,absurd,List.pairwise_iff_getElem]
theorem av9 {ks:List Nat} (H:ks.Nodup) {k j:Nat} (h:ks[j]?=some k):ace ks k=some j:=by have o:ks.any (Nat.beq k)=true:=List.any_eq_true.2 ⟨k,List.mem_of_getElem? h,Bi k⟩;unfold ace;rw [o];simp only [Af,Al];grind [am6,ap0]
theorem aic {I:Nat->Option Nat}{H:Nat->Nat}:∀ (ks:List Nat) (sub:List BX),agx st I H ks=some sub->sub.length=ks.length/\∀ (j k:Nat),ks[j]?=some k->∃ b o,st[k]?=some b/\ahm st I H k b=some o/\sub[j]?=some o:=by
 intro ks;induction ks with
 | nil=>intro sub h;simp [agx] at h;grind
 | cons x r J=>intro sub h;unfold agx at h;grind
def afw (ow:Own) (ks:List Nat) (b:Nat):Option Nat:=match ow b with | some k=>ace ks k | none=>none
theorem aej {ks:List Nat}{b j:Nat} (h:afw ow ks b=some j):∃ k,ks[j]?=some k/\ow b=some k:=by grind [afw,akk]
theorem aqe {ks:List Nat} (H:ks.Nodup) {j k b:Nat} (o:ks[j]?=some k) (h:ow b=some k):afw ow ks b=some j:=by grind [afw,av9]
theorem aks {ks:List Nat}{b:Nat} (h:∀ k,k∈ks->ow b≠some k):afw ow ks b=none:=by
 cases o:afw ow ks b with
 | none=>rfl
 | some j=>grind [aej,absurd,List.mem_of_getElem?]
theorem Emb.sub {ks:List Nat}{sub:List BX}{I:Nat->Nat} (Z:ks.Nodup) (hs:agx st (ace ks) I ks=some sub):Emb (ace ks) I ow μ st (afw ow ks) (λj=>μ (ks.getD j 0)) sub:=by obtain ⟨h1,M⟩:=aic ks sub hs;refine ⟨λk j b h O=>?_,λk j b h ob=>aqe Z (akk h) ob⟩;have o:=akk h;obtain ⟨b0,J,H,q2,q3⟩:=M j k o;rw [O] at H;cases H;obtain ⟨r1,r2⟩:=acm q2;exact ⟨J,q3,r1,λ_=>by simp [List.getD,o],r2⟩
theorem Objs.sub {P:Program} (h:Objs P D ow μ st w) {ks:List Nat}{sub:List BX}{γ:Nat->Nat} (hn:ks.Nodup) (hs:agx st (ace ks) γ ks=some sub):Objs P D (afw ow ks) (λj=>μ (ks.getD j 0)) sub w:=by
 have m:=Emb.sub (ow:=ow) (μ:=μ) hn hs;obtain ⟨h1,h2⟩:=aic ks sub hs;refine ⟨λj b' hj=>?_,λb j Z=>?_,h.dlt,λb j x Z hx I o d=>?_⟩
 ·have aa:j<ks.length:=by grind
  have J:ks[j]?=some ks[j]:=As aa;obtain ⟨b0,b1,O,q2,M⟩:=h2 j _ J;rw [hj] at M;cases M;exact (h.obj _ _ O).ren m O (av9 hn J) q2
 ·obtain ⟨k,J,H⟩:=aej Z;exact ⟨(h.owlt _ _ H).1,by grind⟩
 ·obtain ⟨k,J,H⟩:=aej Z;obtain ⟨b0,b1,O,q2,M⟩:=h2 j k J;rw [hx] at M;cases M;exact h.lone b k b0 H O (afr (acm q2).1.symm I) o d
theorem WRel.objs (h:WRel Γ D ow μ st w):Objs Γ.P D ow μ st w:=by
 refine ⟨λk b o=>?_,h.owlt,h.dlt,h.lone⟩;cases b with
 | box T s=>exact h.box k T s o
 | map K E es=>exact h.map k K E es o
 | acc g=>trivial
 | hole=>trivial
 | _=>exact h.obj k _ o
end
end Go.Ab
namespace Go.Ab
open Go
section
variable {Γ:Ctx}{D:Dom}{ow:Own}{μ:Nat->Nat}{st:List BX}{w:World}
theorem WRel.letGo (H:WRel Γ D ow μ st w) (I:Γ.np=0) (fz:List Nat):WRel Γ (adp D ow μ st fz) (λ_=>none) μ [] w:=by
 refine ⟨λk T s h=>(by simp at h),λk K E es h=>(by simp at h),λk b h=>(by simp at h),λb k h=>(by cases h),λb o d=>?_,H.os,H.tape,H.output,H.hs,H.old,λb o d=>Or.inl (H.dom0 b o d),λb o d=>?_,λb k h=>(by cases h),(by rw [I];exact Nat.zero_le _),λk h=>(by omega),λk h=>(by omega),λb k x h=>(by cases h),H.keep0,λk h=>(by omega)⟩
 ·rcases adg d with d | ⟨k,_,h,_⟩
  ·exact H.dlt b o d
  ·exact (H.owlt b k h).1
 ·rcases adg d with d | ⟨k,_,h,_⟩
  ·exact H.domN b o d
  ·by_cases J:b<Γ.B
   ·exact Or.inr (Or.inr (by rw [H.owN b k h J];simp))
   ·exact Or.inr (Or.inl (by omega))
theorem ax0 {P:Program}{args H:List SV}{o:Array Value} (hw:WRel Γ D ow μ st w) (hP:P=Γ.P) (I:∀ (i:Nat) (s:SV) (v:Value),args[i]?=some s->o[i]?=some v->SRep Γ.P D w ow μ st s v) (hr:renL st (λ_=>none) (λ_=>0) (frzL st args)=some H):
 H.length=args.length/\∀ (i:Nat) (s:SV) (v:Value),H[i]?=some s->o[i]?=some v->SRep Γ.P (adp D ow μ st (aph args)) w (λ_=>none) μ [] s v:=by
 obtain ⟨h1,h2⟩:=ahn hr
 have Z:Emb (λ_=>none) (λ_=>0) ow μ st (λ_=>none) μ []:=⟨λ_ _ _ h=>(by simp at h),λ_ _ _ h=>(by simp at h)⟩
 refine ⟨by rw [h1,amo],λi s v hs hv=>?_⟩
 obtain ⟨y,M,J⟩:=h2 i s hs
 rw [av6] at M
 obtain ⟨z,O,rfl⟩:=Option.map_eq_some_iff.1 M
 exact aek Z (aki (fz:=aph args) hw (I i z v O hv) λk hk=>aq4 O hk) J
end
end Go.Ab
