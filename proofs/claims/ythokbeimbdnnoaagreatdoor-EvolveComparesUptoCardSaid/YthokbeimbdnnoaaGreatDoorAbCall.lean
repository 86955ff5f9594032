/- Calls by contract. -/
import Derived.Test.YthokbeimbdnnoaaGreatDoorAbStep
set_option linter.unusedVariables false
set_option linter.unusedSimpArgs false
set_option linter.unnecessarySimpa false
namespace Go.Ab
open Go
def aw2 (P:Program) (D:Dom) (w:World) (s:SV) (v:Value):Prop:=∀ (ow:Own) (μ:Nat->Nat) (st:List BX),SRep P D w ow μ st s v
def ObjIn (P:Program) (D:Dom) (w:World) (ow:Own) (μ:Nat->Nat) (st:List BX) (k:Nat):BX->Prop
 | .box T s=>BoxRep P D w ow μ st k T s
 | .map K E es=>OMapRep P D w ow μ k K E es
 | .acc _=>True
 | .iter s p=>ObjRep P D w ow μ k (.iter s p)
 | .bld T bs=>ObjRep P D w ow μ k (.bld T bs)
 | .arr E g xs=>ObjRep P D w ow μ k (.arr E g xs)
 | .mit K E es=>ObjRep P D w ow μ k (.mit K E es)
 | .hole=>True
structure Objs (P:Program) (D:Dom) (ow:Own) (μ:Nat->Nat) (st:List BX) (w:World):Prop where
 obj:∀ (k:Nat) (b:BX),st[k]?=some b->ObjIn P D w ow μ st k b
 owlt:∀ b k,ow b=some k->b<w.heap.size/\k<st.length
 dlt:∀ b o,D b o->b<w.heap.size
 lone:∀ (b k:Nat) (x:BX),ow b=some k->st[k]?=some x->(∀ g,x≠.acc g)->∀ o,¬D b o
structure Pre (P:Program) (D:Dom) (ow:Own) (μ:Nat->Nat) (st:List BX) (w:World) (as:List SV) (vals:Array Value):Prop where
 size:vals.size=as.length
 arg:∀ (i:Nat) (s:SV) (v:Value),as[i]?=some s->vals[i]?=some v->SRep P D w ow μ st s v
 objs:Objs P D ow μ st w
 tabs:Tabs P ow w
theorem Pre.dlt {P:Program}{D:Dom}{ow:Own}{μ:Nat->Nat}{st:List BX}{w:World}{H:List SV}{h:Array Value} (z:Pre P D ow μ st w H h):∀ b o,D b o->b<w.heap.size:=z.objs.dlt
def agu (h:List SV) (v:Value):Ending:=
 match h with
 | [.pan _]=>.panicked [{ v,recovered:=false }]
 | _=>.returned v
def agn (P:Program) (D:Dom) (w:World) (ow:Own) (μ:Nat->Nat) (st:List BX) (h:List SV) (v:Value):Prop:=
 match h with
 | [.pan s]=>SRep P D w ow μ st s v
 | h=>SRep P D w ow μ st (ac9 h) v
theorem ag7 {P:Program}{D:Dom}{w:World}{ow:Own}{μ:Nat->Nat}{st:List BX}{o:List SV}{v:Value} (h:SRep P D w ow μ st (ac9 o) v):agn P D w ow μ st o v/\agu o v=.returned v:=by
 unfold agn agu;split
 ·cases h
 ·exact ⟨h,rfl⟩
theorem ab4 {P:Program}{D:Dom}{w:World}{ow:Own}{μ:Nat->Nat}{st:List BX}{o:List SV}{v:Value} (h:agn P D w ow μ st o v):
 (∃ s,o=[.pan s]/\SRep P D w ow μ st s v/\agu o v=.panicked [{ v,recovered:=false }])\/((∀ s,o≠[.pan s])/\SRep P D w ow μ st (ac9 o) v/\agu o v=.returned v):=by
 unfold agn at h
 split at h
 ·rename_i s;exact Or.inl ⟨s,rfl,h,rfl⟩
 ·rename_i z;refine Or.inr ⟨λs e=>z s e,h,?_⟩;unfold agu;split
  ·rename_i s;exact absurd rfl (z s)
  ·rfl
structure Rest (P:Program) (D:Dom) (w:World) (ow:Own) (μ:Nat->Nat) (st:List BX) (rs:List SV) (st':List BX) (v:Value) (D':Dom) (w':World) (ow':Own) (μ':Nat->Nat):Prop where
 objs:Objs P D' ow' μ' st' w'
 res:agn P D' w' ow' μ' st' rs v
 own:∀ b k,ow' b=some k->b<w.heap.size->ow b=some k
 keep:∀ (k:Nat) (b:BX),st[k]?=some b->∃ b',st'[k]?=some b'/\b'.kind=b.kind/\((∀ g,b≠.acc g)->(∀ E g xs,b≠.arr E g xs)->μ' k=μ k)
 same:∀ (k:Nat) (E:TypeId) (g:Nat) (xs ys:List PV),st[k]?=some (.arr E g xs)->st'[k]?=some (.arr E 0 ys)->ys.length=xs.length/\ArrKeep w ow μ w' ow' μ' k E
structure Post (P:Program) (D:Dom) (w:World) (ow:Own) (μ:Nat->Nat) (st:List BX) (rs:List SV) (st':List BX) (v:Value) (D':Dom) (w':World):Prop where
 dom:∀ b o,D b o->D' b o
 new:∀ b o,D' b o->D b o\/w.heap.size<=b\/ow b≠none
 rest:∃ (ow':Own) (μ':Nat->Nat),Rest P D w ow μ st rs st' v D' w' ow' μ'
 os:w'.os=w.os
 tape:w'.tape=w.tape
 output:w'.output=w.output
 size:w.heap.size<=w'.heap.size
 old:∀ b,b<w.heap.size->ow b=none->w'.heap[b]?=w.heap[b]?
 keeps:Keeps D w w'
def aks (P:Program) (f:FuncId):Prop:=∀ (args:Array Value) (w:World),(callFunc f args).run P w=.ok (.enter f args) w
def Meets (P:Program) (f:FuncId) (z:List SV) (st:List BX) (o:List SV) (st':List BX):Prop:=
 aks P f/\∀ (D:Dom) (ow:Own) (μ:Nat->Nat) (w:World) (h:Array Value),Pre P D ow μ st w z h->
  Calls P f h w λe w'=>∃ v D',e=agu o v/\Post P D w ow μ st o st' v D' w'
theorem aa7 {P:Program}{f:FuncId}{fn:Func} (H:P.funcs[f]?=some fn) (I:(fn.name== "runtime.NumGoroutine")=false) (z:fn.body.isNone=false):aks P f:=by
 intro args w;have o:fn.name≠ "runtime.NumGoroutine":=by simpa using I
 have h:fn.body≠none:=λe=>by rw [e] at z;cases z
 simp [callFunc,H,o,h]
theorem ak1 {b:BX}{T:TypeId}{s:SV} (h:b.kind=(BX.box T s).kind):∃ o,b=.box T o:=by cases b<;>simp [BX.kind] at h;subst h;exact ⟨_,rfl⟩
theorem aun {b:BX}{T:TypeId}{s:Bq} (h:b.kind=(BX.bld T s).kind):∃ o,b=.bld T o:=by cases b<;>simp [BX.kind] at h;subst h;exact ⟨_,rfl⟩
theorem auo {b:BX}{K E:TypeId}{s:List (PV×PV)} (h:b.kind=(BX.map K E s).kind):∃ o,b=.map K E o:=by cases b<;>simp [BX.kind] at h;obtain ⟨rfl,rfl⟩:=h;exact ⟨_,rfl⟩
theorem ayt {b:BX}{s:Bq}{p:Nat} (h:b.kind=(BX.iter s p).kind):∃ o p',b=.iter o p':=by cases b<;>simp [BX.kind] at h;exact ⟨_,_,rfl⟩
theorem a1x {b:BX}{g:Nat} (h:b.kind=(BX.acc g).kind):∃ o,b=.acc o:=by cases b<;>simp [BX.kind] at h;exact ⟨_,rfl⟩
theorem aqv {b o:BX} (h:o.kind=b.kind) (z:∀ E g xs,b≠.arr E g xs):∀ E g xs,o≠.arr E g xs:=by intro E g xs e;subst e;obtain ⟨H,ys,rfl⟩:=ahk h.symm;exact z _ _ _ rfl
theorem afe {b o:BX} (h:o.kind=b.kind) (z:∀ g,b≠.acc g):∀ g,o≠.acc g:=by intro g e;subst e;cases b<;>simp [BX.kind] at h;exact z _ rfl
section
variable {Γ:Ctx}{D:Dom}{ow:Own}{μ:Nat->Nat}{st:List BX}{w:World}
theorem aco {P:Program}{T:Option TypeId}{s I:SV}{v:Value} (h:SRep P D w ow μ st s v) (o:ajm P T s=some I):aw2 P D w I v:=by
 intro Z aa st';unfold ajm at o;split at o
 ·simp only [Al] at o;subst o;cases h;exact .bool
 ·simp only [Al] at o;subst o;cases h;exact .int
 ·simp only [Al] at o;subst o;cases h;exact .str
 ·simp only [Al] at o;subst o;cases h with | slice h=>exact .slice h
 ·simp only [Al] at o;subst o;cases h with | data h1 h2=>exact .data h1 h2
 ·simp only [Al] at o;subst o;cases h with | map h=>exact .map h
 ·simp only [Al] at o;subst o;cases h;exact .raw
 ·simp only [Al] at o;subst o;cases h with | pto h1 h2=>exact .pto h1 h2
 ·simp only [Al] at o;subst o;cases h with | eif h1 h2=>exact .eif h1 h2
 ·simp only [Al] at o;subst o;cases h with | acc h=>exact .slice h
 ·simp only [Al] at o;subst o;cases h with | lit h=>exact .slice h
 ·simp only [Al] at o;subst o;cases h with | sln h=>exact .slice h
 ·split at o
  ·split at o
   ·simp only [Al] at o;subst o;cases h;exact .slice (.nil λ_=>rfl)
   ·simp at o
  ·simp at o
 ·rename_i z J;cases H:isOf P z (.agg z J) with
  | false=>rw [H] at o;simp at o
  | true=>
   rw [H] at o;simp only [Af,Al] at o;subst o;have O:=abh h z H;cases h with
   | agg M=>exact .data (by simp [aak,M]) (by simpa [Value.cells] using O)
 ·simp at o
structure Emb (ρ:Nat->Option Nat) (γ:Nat->Nat) (ow1:Own) (μ1:Nat->Nat) (st1:List BX) (ow2:Own) (μ2:Nat->Nat) (st2:List BX):Prop where
 obj:∀ (j k:Nat) (b:BX),ρ j=some k->st1[j]?=some b->∃ b',st2[k]?=some b'/\b'.kind=b.kind/\((∀ g,b≠.acc g)->μ2 k=μ1 j)/\((∃ g,b=.acc g)->b'=.acc (γ j))/\(∀ E g xs,b=.arr E g xs->b'=.arr E (γ j) xs)
 own:∀ (j k b:Nat),ρ j=some k->ow1 b=some j->ow2 b=some k
theorem ai9 {st:List BX}{J:Nat->Option Nat}{I:Nat->Nat}:∀ {l o:List SV},renL st J I l=some o->o.length=l.length/\∀ (i:Nat) (x:SV),o[i]?=some x->∃ y,l[i]?=some y/\renS st J I y=some x:=by
 intro l;induction l with
 | nil=>intro o h;simp only [renL,Al] at h;subst h;exact ⟨rfl,λi x z=>by simp at z⟩
 | cons s r ih=>
  intro o h;simp only [renL] at h;split at h
  ·rename_i x q z Z;simp only [Al] at h;subst h;obtain ⟨M,O⟩:=ih Z;refine ⟨by simp [M],λi y H=>?_⟩;cases i with
   | zero=>simp at H;subst H;exact ⟨s,by simp,z⟩
   | succ i=>simpa using O i y (by simpa using H)
  ·cases h
theorem afo {P:Program}{ρ:Nat->Option Nat}{γ:Nat->Nat}{ad:Own}{af:Nat->Nat}{ae:List BX} (m:Emb ρ γ ow μ st ad af ae) {s:SV}{v:Value} (h:SRep P D w ow μ st s v):∀ {H:SV},renS st ρ γ s=some H->SRep P D w ad af ae H v:=by
 induction h with
 | undef=>intro H o;simp only [renS,Al] at o;subst o;exact .undef
 | bool=>intro H o;simp only [renS,Al] at o;subst o;exact .bool
 | int=>intro H o;simp only [renS,Al] at o;subst o;exact .int
 | str=>intro H o;simp only [renS,Al] at o;subst o;exact .str
 | slice h=>intro H o;simp only [renS,Al] at o;subst o;exact .slice h
 | data hT h=>intro H o;simp only [renS,Al] at o;subst o;exact .data hT h
 | agg hT hl ho hv _ ih=>
  intro H o;simp only [renS] at o;split at o
  ·rename_i gs hg;simp only [Al] at o;subst o;obtain ⟨I,M⟩:=ai9 hg;refine .agg hT hl ho (by rw [I];exact hv) (λi x f hx hf=>?_);obtain ⟨y,hy,aa⟩:=M i x hx;exact ih i y f hy hf aa
  ·cases o
 | map h=>intro H o;simp only [renS,Al] at o;subst o;exact .map h
 | nils=>intro H o;simp only [renS,Al] at o;subst o;exact .nils
 | lit h=>intro H o;simp only [renS,Al] at o;subst o;exact .slice h
 | sln h=>intro H o;simp only [renS,Al] at o;subst o;exact .slice h
 | mitr J=>intro H o;simp [renS] at o
 | @acc k g g0 E xs v h J hg ho=>
  intro H o;simp only [renS,Al] at o;split at o
  ·rename_i O z;cases ha:amw st k g with
   | false=>rw [ha] at o;simp only [Ah] at o;subst o;exact .slice h
   | true=>
    rw [ha] at o;simp only [Af] at o;subst o;obtain ⟨b',I,M,Z,h4,_⟩:=m.obj k O _ z J;rw [h4 ⟨_,rfl⟩] at I;refine .acc h I (Nat.le_refl _) (λ_=>?_);have ag:g=g0:=by unfold amw at ha;rw [J] at ha;exact Aa ha
    rcases ho ag with ho | ⟨b,cap,cur,q1,q2,q3,q4,q5,q6,q7⟩
    ·exact Or.inl ho
    ·exact Or.inr ⟨b,cap,cur,q1,q2,q3,q4,q5,m.own k O b z q6,q7⟩
  ·subst o;exact .slice h
 | ref J hp=>
  intro H o;simp only [renS] at o;split at o
  ·rename_i O z;simp only [Al] at o;subst o;obtain ⟨b',I,M,Z,_⟩:=m.obj _ O _ z J;obtain ⟨s1,rfl⟩:=ak1 M;rw [<-Z (by simp)];exact .ref I hp
  ·cases o
 | mref J=>
  intro H o;simp only [renS] at o;split at o
  ·rename_i O z;simp only [Al] at o;subst o;obtain ⟨b',I,M,Z,_⟩:=m.obj _ O _ z J;obtain ⟨s1,rfl⟩:=auo M;rw [<-Z (by simp)];exact .mref I
  ·cases o
 | iref J=>intro H o;simp [renS] at o
 | bref J=>
  intro H o;simp only [renS] at o;split at o
  ·rename_i O z;simp only [Al] at o;subst o;obtain ⟨b',I,M,Z,_⟩:=m.obj _ O _ z J;obtain ⟨s1,rfl⟩:=aun M;rw [<-Z (by simp)];exact .bref I
  ·cases o
 | nx I M=>intro H o;simp [renS] at o
 | eif I M=>intro H o;simp only [renS,Al] at o;subst o;exact .eif I M
 | ifc _ ih=>
  intro H o;simp only [renS] at o;split at o
  ·rename_i x hx;simp only [Al] at o;subst o;exact .ifc (ih hx)
  ·cases o
 | pto I M=>intro H o;simp only [renS,Al] at o;subst o;exact .pto I M
 | fn aj ab _ ih=>
  intro H o;simp only [renS] at o;split at o
  ·rename_i gs hg;simp only [Al] at o;subst o;obtain ⟨I,M⟩:=ai9 hg;refine .fn aj (by rw [I];exact ab) (λi x u hx hu=>?_);obtain ⟨y,hy,aa⟩:=M i x hx;exact ih i y u hy hu aa
  ·cases o
 | tup ab _ ih=>intro H o;simp [renS] at o
 | raw=>intro H o;simp only [renS,Al] at o;subst o;exact .raw
 | eref J hT hi=>
  intro H o;simp only [renS] at o;split at o
  ·rename_i O z;simp only [Al] at o;subst o;obtain ⟨b',I,M,Z,_⟩:=m.obj _ O _ z J;obtain ⟨s1,rfl⟩:=ak1 M;rw [<-Z (by simp)];exact .eref I hT hi
  ·cases o
 | asl J hT hi hc=>
  intro H o;simp only [renS] at o;split at o
  ·rename_i O z;simp only [Al] at o;subst o;obtain ⟨b',I,M,Z,_⟩:=m.obj _ O _ z J;obtain ⟨s1,rfl⟩:=ak1 M;rw [<-Z (by simp)];exact .asl I hT hi hc
  ·cases o
 | @arrOld k g g0 E E' xs v J ah ho=>
  intro H o;simp only [renS] at o;split at o
  ·have:aek st k g=false:=by
    unfold aek;rw [J];show Nat.beq g g0=false;cases hb:Nat.beq g g0 with
    | false=>rfl
    | true=>have:=Aa hb;omega
   rw [this] at o;cases o
  ·cases o
 | @arrNil k g E a J=>
  intro H o;simp only [renS] at o;split at o
  ·rename_i O z;cases ha:aek st k g with
   | false=>rw [ha] at o;cases o
   | true=>rw [ha] at o;simp only [Af,Al] at o;subst o;obtain ⟨b',I,M,Z,_,h5⟩:=m.obj k O _ z J;rw [h5 _ _ _ rfl] at I;exact .arrNil I
  ·cases o
 | @arr k g cap E xs cur J hl ai hc ho ak=>
  intro H o;simp only [renS] at o;split at o
  ·rename_i O z;cases ha:aek st k g with
   | false=>rw [ha] at o;cases o
   | true=>rw [ha] at o;simp only [Af,Al] at o;subst o;obtain ⟨b',I,M,Z,_,h5⟩:=m.obj k O _ z J;rw [h5 _ _ _ rfl] at I;have e:=Z (by simp);rw [<-e];exact .arr I hl ai (by rw [e];exact hc) (by rw [e];exact m.own k O _ z ho) ak
  ·cases o
 | @arefOld k g g0 i E E' T path xs v J ah ho=>
  intro H o;simp only [renS] at o;split at o
  ·have:aek st k g=false:=by
    unfold aek;rw [J];show Nat.beq g g0=false;cases hb:Nat.beq g g0 with
    | false=>rfl
    | true=>have:=Aa hb;omega
   rw [this] at o;cases o
  ·cases o
 | @aref k g i off E T path xs cur J hl hp hc ho=>
  intro H o;simp only [renS] at o;split at o
  ·rename_i O z;cases ha:aek st k g with
   | false=>rw [ha] at o;cases o
   | true=>rw [ha] at o;simp only [Af,Al] at o;subst o;obtain ⟨b',I,M,Z,_,h5⟩:=m.obj k O _ z J;rw [h5 _ _ _ rfl] at I;have e:=Z (by simp);rw [<-e];exact .aref I hl hp (by rw [e];exact hc) (by rw [e];exact m.own k O _ z ho)
  ·cases o
theorem ara {P:Program}{ρ:Nat->Option Nat}{γ:Nat->Nat}{J:Own}{Z:Nat->Nat}{O:List BX} (m:Emb ρ γ ow μ st J Z O) {M o:List SV}{v:Value} (h:SRep P D w ow μ st (ac9 M) v) (hr:renL st ρ γ M=some o):SRep P D w J Z O (ac9 o) v:=by
 obtain ⟨h1,h2⟩:=ai9 hr;by_cases H:M.length=1
 ·match M,H,o,h1 with
  | [s],_,[s'],_=>obtain ⟨y,hy,z⟩:=h2 0 s' rfl;simp at hy;subst hy;exact afo m h z
 ·have e1:∀ l:List SV,l.length≠1->ac9 l=.tup l:=by
   intro l H;match l,H with
   | [],_=>rfl
   | [x],H=>exact absurd rfl H
   | x::y::r,_=>rfl
  rw [e1 M H] at h;rw [e1 o (by omega)];cases h with
  | tup hs I=>refine .tup (by rw [h1];exact hs) (λi x u hx hu=>?_);obtain ⟨y,hy,z⟩:=h2 i x hx;exact afo m (I i y u hy hu) z
theorem awl {P:Program}{ρ:Nat->Option Nat}{γ:Nat->Nat}{H:Own}{J:Nat->Nat}{I:List BX} (m:Emb ρ γ ow μ st H J I) {Z o:List SV}{v:Value} (h:agn P D w ow μ st Z v) (z:renL st ρ γ Z=some o):agn P D w H J I o v/\agu o v=agu Z v:=by
 rcases ab4 h with ⟨s,rfl,O,h2⟩ | ⟨aa,O,h2⟩
 ·simp only [renL,renS] at z;split at z
  ·rename_i x q M hq;simp only [Al] at hq z;subst hq;subst z;split at M
   ·rename_i y hy;simp only [Al] at M;subst M;exact ⟨afo m O hy,rfl⟩
   ·cases M
  ·cases z
 ·obtain ⟨q1,q2⟩:=ag7 (ara m O z);exact ⟨q1,q2.trans h2.symm⟩
theorem acg {M:Nat->Option Nat}{H:Nat->Nat}{k:Nat}{b z:BX} (h:ag6 st M H k b=some z):z.kind=b.kind/\((∃ g,b=.acc g)->z=.acc (H k))/\(∀ E g xs,b=.arr E g xs->z=.arr E (H k) xs):=by
 unfold ag6 at h;split at h
 ·split at h
  ·cases h;exact ⟨rfl,(λ⟨g,o⟩=>by cases o),λE g xs e=>by cases e⟩
  ·cases h
 ·cases h;exact ⟨rfl,λ_=>rfl,λE g xs e=>by cases e⟩
 ·cases h;exact ⟨rfl,(λ⟨g,o⟩=>by cases o),λE g xs e=>by cases e;rfl⟩
 ·cases h
 ·cases h
 ·rename_i O I J Z h5;cases h;exact ⟨rfl,λ⟨g,o⟩=>absurd o (I g),λE g xs e=>absurd e (J E g xs)⟩
theorem ObjIn.ren {P:Program}{ρ:Nat->Option Nat}{γ:Nat->Nat}{I:Own}{aa:Nat->Nat}{ab:List BX} (m:Emb ρ γ ow μ st I aa ab) {j k:Nat}{b b':BX} (hj:st[j]?=some b) (hk:ρ j=some k) (h:ObjIn P D w ow μ st j b) (o:ag6 st ρ γ j b=some b'):ObjIn P D w I aa ab k b':=by
 obtain ⟨b2,_,_,z,_⟩:=m.obj j k b hk hj;cases b with
 | box T s=>
  simp only [ag6] at o;split at o
  ·rename_i x hx;cases o;have e:=z (by simp);obtain ⟨H,T',J,M,O,Z,q5⟩:=h;exact ⟨H,T',by rw [e];exact J,M,by rw [e];exact m.own j k _ hk O,by rw [e];exact Z,afo m q5 hx⟩
  ·cases o
 | map K E es=>simp only [ag6,Al] at o;subst o;have e:=z (by simp);obtain ⟨ents,clock,kc,vc,J,M,O,Z⟩:=h;exact ⟨ents,clock,kc,vc,by rw [e];exact J,by rw [e];exact m.own j k _ hk M,by rw [e];exact O,Z⟩
 | acc g=>simp only [ag6,Al] at o;subst o;trivial
 | hole=>simp only [ag6,Al] at o;subst o;trivial
 | iter s p=>simp [ag6] at o
 | mit K E es=>simp [ag6] at o
 | bld T bs=>
  simp only [ag6,Al] at o;subst o;have e:=z (by simp);obtain ⟨p,v,J,M,O,Z,q5⟩:=h;refine ⟨p,v,by rw [e];exact J,by rw [e];exact M,by rw [e];exact m.own j k _ hk O,by rw [e];exact Z,?_⟩;rcases q5 with q5 | ⟨g,cap,cur,fz,a1,a2,a4,a5,a6,a7,a8,a9,ad,ae⟩
  ·exact Or.inl q5
  ·exact Or.inr ⟨g,cap,cur,fz,a1,a2,a4,a5,a6,a7,a8,by rw [e];exact a9,m.own j k _ hk ad,ae⟩
 | arr E g xs=>
  simp only [ag6,Al] at o;subst o;have e:=z (by simp);have h0:aty P D w ow μ j E xs:=h;show aty P D w I aa k E xs;rcases h0 with h0 | ⟨cur,J,M,O,Z,q5⟩
  ·exact Or.inl h0
  ·exact Or.inr ⟨cur,by rw [e];exact J,by rw [e];exact m.own j k _ hk M,by rw [e];exact O,Z,q5⟩
theorem ago:∀ (l ks:List Nat),ks.Nodup->(ae2 ks l).Nodup:=by
 intro l;induction l with
 | nil=>intro ks h;exact h
 | cons k r I=>
  intro ks h;unfold ae2;refine I _ ?_;cases H:ks.any (Nat.beq k) with
  | true=>simpa using h
  | false=>simp only [Ah];refine List.nodup_append.2 ⟨h,by simp,λa z b o e=>?_⟩;simp at o;subst o;subst e;have:ks.any (Nat.beq a)=true:=List.any_eq_true.2 ⟨a,z,Bi a⟩;rw [H] at this;cases this
theorem aft:∀ (l ks:List Nat),∃ r,ae2 ks l=ks++r:=by
 intro l;induction l with
 | nil=>intro ks;exact ⟨[],by simp [ae2]⟩
 | cons k r z=>
  intro ks;unfold ae2;obtain ⟨q,h⟩:=z (bif ks.any (Nat.beq k) then ks else ks++[k]);cases o:ks.any (Nat.beq k) with
  | true=>rw [o] at h;exact ⟨q,h⟩
  | false=>rw [o] at h;simp only [Ah] at h ⊢;exact ⟨[k]++q,by rw [h];simp⟩
theorem amh:∀ (n:Nat) (ks:List Nat),ks.Nodup->(reach st n ks).Nodup:=by
 intro n;induction n with
 | zero=>intro ks h;exact h
 | succ n o=>intro ks h;exact o _ (ago _ _ h)
theorem akl:∀ (n:Nat) (ks:List Nat),∃ r,reach st n ks=ks++r:=by
 intro n;induction n with
 | zero=>intro ks;exact ⟨[],by simp [reach]⟩
 | succ n z=>intro ks;obtain ⟨r,o⟩:=z (ae2 ks (ks.flatMap (ayx st)));obtain ⟨q,h⟩:=aft (ks.flatMap (ayx st)) ks;exact ⟨q++r,by rw [reach,o,h,Ap]⟩
theorem ac8 (st:List BX) (args:List SV):(aaq st args).Nodup:=amh _ _ (ago _ _ (by simp))
theorem akf (st:List BX) (np:Nat) (h:List SV):(ae8 st np h).Nodup:=amh _ _ (ago _ _ List.nodup_range)
theorem air (st:List BX) (np:Nat) (h:List SV):∃ r,ae8 st np h=List.range np++r:=by obtain ⟨r,z⟩:=akl (st:=st) 4 (ae2 (List.range np) (afg false st h));obtain ⟨q,o⟩:=aft (afg false st h) (List.range np);exact ⟨q++r,by rw [ae8,z,o,Ap]⟩
theorem ate {st:List BX}{args:List SV} (h:aaq st args=[]):afg false st args=[]:=by
 obtain ⟨r,I⟩:=akl (st:=st) 4 (ae2 [] (afg false st args));unfold aaq at h;rw [I] at h;have o:=(List.append_eq_nil_iff.1 h).1;cases z:afg false st args with
 | nil=>rfl
 | cons k r=>rw [z] at o;unfold ae2 at o;obtain ⟨q,H⟩:=aft r (bif ([]:List Nat).any (Nat.beq k) then [] else []++[k]);rw [H] at o;simp at o
theorem aox {k:Nat}:∀ {ks:List Nat},ks.any (Nat.beq k)=true->ks[idx k ks]?=some k:=by
 intro ks;induction ks with
 | nil=>intro h;simp at h
 | cons x r z=>
  intro h;unfold idx;cases o:Nat.beq k x with
  | true=>have:=Aa o;subst this;simp
  | false=>simp only [List.any_cons,o,Bool.false_or] at h;simpa using z h
theorem ajq {ks:List Nat}{k j:Nat} (h:ab9 ks k=some j):ks[j]?=some k:=by
 unfold ab9 at h;cases o:ks.any (Nat.beq k) with
 | false=>rw [o] at h;cases h
 | true=>rw [o] at h;simp only [Af,Al] at h;subst h;exact aox o
theorem al8 {ks:List Nat} (J:ks.Nodup) {i j k:Nat} (M:ks[i]?=some k) (O:ks[j]?=some k):i=j:=by
 obtain ⟨o,z⟩:=List.getElem?_eq_some_iff.1 M;obtain ⟨H,I⟩:=List.getElem?_eq_some_iff.1 O;rcases Nat.lt_trichotomy i j with h | h | h
 ·exact absurd (z.trans I.symm) (List.pairwise_iff_getElem.1 J i j o H h)
 ·exact h
 ·exact absurd (I.trans z.symm) (List.pairwise_iff_getElem.1 J j i H o h)
theorem aui {ks:List Nat} (z:ks.Nodup) {k j:Nat} (h:ks[j]?=some k):ab9 ks k=some j:=by have o:ks.any (Nat.beq k)=true:=List.any_eq_true.2 ⟨k,List.mem_of_getElem? h,Bi k⟩;unfold ab9;rw [o];simp only [Af,Al];exact al8 z (aox o) h
theorem ahu {I:Nat->Option Nat}{H:Nat->Nat}:∀ (ks:List Nat) (sub:List BX),agk st I H ks=some sub->sub.length=ks.length/\∀ (j k:Nat),ks[j]?=some k->∃ b z,st[k]?=some b/\ag6 st I H k b=some z/\sub[j]?=some z:=by
 intro ks;induction ks with
 | nil=>intro sub h;simp [agk] at h;subst h;exact ⟨rfl,λj k o=>by simp at o⟩
 | cons x r ih=>
  intro sub h;unfold agk at h;split at h
  ·rename_i b O;split at h
   ·rename_i y q hy Z;simp only [Al] at h;subst h;obtain ⟨J,M⟩:=ih q Z;refine ⟨by simp [J],λj k o=>?_⟩;cases j with
    | zero=>simp at o;subst o;exact ⟨b,y,O,hy,rfl⟩
    | succ j=>simp at o;simpa using M j k o
   ·simp at h
  ·simp at h
def afj (ow:Own) (ks:List Nat) (b:Nat):Option Nat:=match ow b with | some k=>ab9 ks k | none=>none
theorem ad9 {ks:List Nat}{b j:Nat} (h:afj ow ks b=some j):∃ k,ks[j]?=some k/\ow b=some k:=by
 unfold afj at h;split at h
 ·rename_i k o;exact ⟨k,ajq h,o⟩
 ·cases h
theorem apb {ks:List Nat} (z:ks.Nodup) {j k b:Nat} (o:ks[j]?=some k) (h:ow b=some k):afj ow ks b=some j:=by unfold afj;rw [h];exact aui z o
theorem ajy {ks:List Nat}{b:Nat} (h:∀ k,k∈ks->ow b≠some k):afj ow ks b=none:=by
 cases H:afj ow ks b with
 | none=>rfl
 | some j=>obtain ⟨k,o,z⟩:=ad9 H;exact absurd z (h k (List.mem_of_getElem? o))
theorem Emb.sub {ks:List Nat}{sub:List BX}{H:Nat->Nat} (O:ks.Nodup) (Z:agk st (ab9 ks) H ks=some sub):Emb (ab9 ks) H ow μ st (afj ow ks) (λj=>μ (ks.getD j 0)) sub:=by obtain ⟨h1,J⟩:=ahu ks sub Z;refine ⟨λk j b h M=>?_,λk j b h ob=>apb O (ajq h) ob⟩;have o:=ajq h;obtain ⟨b0,I,z,q2,q3⟩:=J j k o;rw [M] at z;cases z;obtain ⟨r1,r2⟩:=acg q2;exact ⟨I,q3,r1,λ_=>by simp [List.getD,o],r2⟩
theorem Objs.sub {P:Program} (h:Objs P D ow μ st w) {ks:List Nat}{sub:List BX}{γ:Nat->Nat} (hn:ks.Nodup) (hs:agk st (ab9 ks) γ ks=some sub):Objs P D (afj ow ks) (λj=>μ (ks.getD j 0)) sub w:=by
 have m:=Emb.sub (ow:=ow) (μ:=μ) hn hs;obtain ⟨h1,h2⟩:=ahu ks sub hs;refine ⟨λj b' hj=>?_,λb j O=>?_,h.dlt,λb j x O hx I o d=>?_⟩
 ·have Z:j<ks.length:=by have:=(List.getElem?_eq_some_iff.1 hj).1;omega
  have H:ks[j]?=some ks[j]:=Aq Z;obtain ⟨b0,b1,M,q2,J⟩:=h2 j _ H;rw [hj] at J;cases J;exact (h.obj _ _ M).ren m M (aui hn H) q2
 ·obtain ⟨k,H,z⟩:=ad9 O;exact ⟨(h.owlt _ _ z).1,by rw [h1];exact (List.getElem?_eq_some_iff.1 H).1⟩
 ·obtain ⟨k,H,z⟩:=ad9 O;obtain ⟨b0,b1,M,q2,J⟩:=h2 j k H;rw [hx] at J;cases J;exact h.lone b k b0 z M (afe (acg q2).1.symm I) o d
theorem WRel.objs (h:WRel Γ D ow μ st w):Objs Γ.P D ow μ st w:=by
 refine ⟨λk b o=>?_,h.owlt,h.dlt,h.lone⟩;cases b with
 | box T s=>exact h.box k T s o
 | map K E es=>exact h.map k K E es o
 | acc g=>trivial
 | hole=>trivial
 | _=>exact h.obj k _ o
end
end Go.Ab
