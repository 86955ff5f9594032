/- Calls by contract. -/
import Derived.Test.YtodichgnoiaanaaGreatDoorAbStep
set_option linter.unusedVariables false
set_option linter.unusedSimpArgs false
set_option linter.unnecessarySimpa false
namespace Go.Ab
open Go
def a1j (P:Program) (D:Dom) (w:World) (s:SV) (v:Value):Prop:=∀ (ow:Own) (μ:Nat->Nat) (st:List BX),SRep P D w ow μ st s v
def ObjIn (P:Program) (D:Dom) (w:World) (ow:Own) (μ:Nat->Nat) (st:List BX) (k:Nat):BX->Prop
 | .box T s=>BoxRep P D w ow μ st k T s
 | .map K E es=>OMapRep P D w ow μ k K E es
 | .acc _=>True
 | .iter s p=>ObjRep P D w ow μ k (.iter s p)
 | .bld T bs=>ObjRep P D w ow μ k (.bld T bs)
 | .arr E g xs=>ObjRep P D w ow μ k (.arr E g xs)
 | .mit K E c es=>ObjRep P D w ow μ k (.mit K E c es)
 | .hole=>True
structure Objs (P:Program) (D:Dom) (ow:Own) (μ:Nat->Nat) (st:List BX) (w:World):Prop where
 obj:∀ (k:Nat) (b:BX),st[k]?=some b->ObjIn P D w ow μ st k b
 owlt:∀ b k,ow b=some k->b<w.heap.size/\k<st.length
 dlt:∀ b o,D b o->b<w.heap.size
 lone:∀ (b k:Nat) (x:BX),ow b=some k->st[k]?=some x->(∀ g,x≠.acc g)->∀ o,¬D b o
structure Pre (P:Program) (D:Dom) (ow:Own) (μ:Nat->Nat) (st:List BX) (w:World) (as:List SV) (vals:Array Value):Prop where
 size:vals.size=as.length
 arg:∀ (i:Nat) (s:SV) (v:Value),as[i]?=some s->vals[i]?=some v->SRep P D w ow μ st s v
 objs:Objs P D ow μ st w
 tabs:Tabs P ow w
theorem Pre.dlt {P:Program}{D:Dom}{ow:Own}{μ:Nat->Nat}{st:List BX}{w:World}{H:List SV}{h:Array Value} (z:Pre P D ow μ st w H h):∀ b o,D b o->b<w.heap.size:=z.objs.dlt
def ahq (rs:List SV) (v:Value):Ending:=
 match rs with
 | [.pan _]=>.panicked [{ v,recovered:=false }]
 | _=>.returned v
def ahk (P:Program) (D:Dom) (w:World) (ow:Own) (μ:Nat->Nat) (st:List BX) (rs:List SV) (v:Value):Prop:=
 match rs with
 | [.pan s]=>SRep P D w ow μ st s v
 | rs=>SRep P D w ow μ st (adg rs) v
theorem afa {P:Program}{D:Dom}{w:World}{ow:Own}{μ:Nat->Nat}{st:List BX}{rs:List SV}{v:Value} (h:SRep P D w ow μ st (adg rs) v):ahk P D w ow μ st rs v/\ahq rs v=.returned v:=by
 unfold ahk ahq;split
 ·cases h
 grind
theorem abz {P:Program}{D:Dom}{w:World}{ow:Own}{μ:Nat->Nat}{st:List BX}{rs:List SV}{v:Value} (h:ahk P D w ow μ st rs v):
 (∃ s,rs=[.pan s]/\SRep P D w ow μ st s v/\ahq rs v=.panicked [{ v,recovered:=false }])\/((∀ s,rs≠[.pan s])/\SRep P D w ow μ st (adg rs) v/\ahq rs v=.returned v):=by
 unfold ahk at h
 split at h
 ·rename_i s;exact Or.inl ⟨s,rfl,h,rfl⟩
 ·rename_i o;refine Or.inr ⟨λs e=>o s e,h,?_⟩;unfold ahq;grind
structure Rest (P:Program) (D:Dom) (w:World) (ow:Own) (μ:Nat->Nat) (st:List BX) (rs:List SV) (st':List BX) (v:Value) (D':Dom) (w':World) (ow':Own) (μ':Nat->Nat):Prop where
 objs:Objs P D' ow' μ' st' w'
 res:ahk P D' w' ow' μ' st' rs v
 own:∀ b k,ow' b=some k->b<w.heap.size->ow b=some k
 keep:∀ (k:Nat) (b:BX),st[k]?=some b->∃ b',st'[k]?=some b'/\b'.kind=b.kind/\((∀ g,b≠.acc g)->(∀ E g xs,b≠.arr E g xs)->μ' k=μ k)
 same:∀ (k:Nat) (E:TypeId) (g:Nat) (xs ys:List PV),st[k]?=some (.arr E g xs)->st'[k]?=some (.arr E 0 ys)->ys.length=xs.length/\ArrKeep w ow μ w' ow' μ' k E
structure Post (P:Program) (D:Dom) (w:World) (ow:Own) (μ:Nat->Nat) (st:List BX) (rs:List SV) (st':List BX) (v:Value) (D':Dom) (w':World):Prop where
 dom:∀ b o,D b o->D' b o
 new:∀ b o,D' b o->D b o\/w.heap.size<=b\/ow b≠none
 rest:∃ (ow':Own) (μ':Nat->Nat),Rest P D w ow μ st rs st' v D' w' ow' μ'
 os:w'.os=w.os
 tape:w'.tape=w.tape
 output:w'.output=w.output
 size:w.heap.size<=w'.heap.size
 old:∀ b,b<w.heap.size->ow b=none->w'.heap[b]?=w.heap[b]?
 keeps:Keeps D w w'
def amw (P:Program) (f:FuncId):Prop:=∀ (args:Array Value) (w:World),(callFunc f args).run P w=.ok (.enter f args) w
def Meets (P:Program) (f:FuncId) (o:List SV) (st:List BX) (rs:List SV) (st':List BX):Prop:=
 amw P f/\∀ (D:Dom) (ow:Own) (μ:Nat->Nat) (w:World) (h:Array Value),Pre P D ow μ st w o h->
  Calls P f h w λe w'=>∃ v D',e=ahq rs v/\Post P D w ow μ st rs st' v D' w'
theorem aa4 {P:Program}{f:FuncId}{fn:Func} (z:P.funcs[f]?=some fn) (H:(fn.name== "runtime.NumGoroutine")=false) (I:fn.body.isNone=false):amw P f:=by
 intro args w;have o:fn.name≠ "runtime.NumGoroutine":=by simpa using H
 have h:fn.body≠none:=λe=>by grind
 simp [callFunc,z,o,h]
theorem am4 {b:BX}{T:TypeId}{s:SV} (h:b.kind=(BX.box T s).kind):∃ o,b=.box T o:=by cases b<;>simp [BX.kind] at h;simp_all
theorem ayr {b:BX}{T:TypeId}{s:Bo} (h:b.kind=(BX.bld T s).kind):∃ o,b=.bld T o:=by cases b<;>simp [BX.kind] at h;simp_all
theorem ays {b:BX}{K E:TypeId}{s:List (PV×PV)} (h:b.kind=(BX.map K E s).kind):∃ o,b=.map K E o:=by cases b<;>simp [BX.kind] at h;simp_all
theorem a4f {b:BX}{s:Bo}{p:Nat} (h:b.kind=(BX.iter s p).kind):∃ o p',b=.iter o p':=by cases b<;>simp [BX.kind] at h;grind
theorem a8w {b:BX}{g:Nat} (h:b.kind=(BX.acc g).kind):∃ o,b=.acc o:=by cases b<;>simp [BX.kind] at h;grind
theorem aua {b o:BX} (h:o.kind=b.kind) (H:∀ E g xs,b≠.arr E g xs):∀ E g xs,o≠.arr E g xs:=by intro E g xs e;subst e;obtain ⟨z,ys,rfl⟩:=aim h.symm;grind
theorem af9 {b o:BX} (h:o.kind=b.kind) (z:∀ g,b≠.acc g):∀ g,o≠.acc g:=by intro g e;subst e;cases b<;>simp [BX.kind] at h;exact z _ rfl
section
variable {Γ:Ctx}{D:Dom}{ow:Own}{μ:Nat->Nat}{st:List BX}{w:World}
theorem ab1 {P:Program}{T:Option TypeId}{s I:SV}{v:Value} (h:SRep P D w ow μ st s v) (o:aj2 P T s=some I):a1j P D w I v:=by
 intro O Z st';unfold aj2 at o;split at o
 ·simp only [Ak] at o;subst o;cases h;exact .bool
 ·simp only [Ak] at o;subst o;cases h;exact .int
 ·simp only [Ak] at o;subst o;cases h;exact .str
 ·simp only [Ak] at o;subst o;cases h with | slice h=>exact .slice h
 ·simp only [Ak] at o;subst o;cases h with | data h1 h2=>exact .data h1 h2
 ·simp only [Ak] at o;subst o;cases h with | map h=>exact .map h
 ·simp only [Ak] at o;subst o;cases h;exact .raw
 ·simp only [Ak] at o;subst o;cases h with | pto h1 h2=>exact .pto h1 h2
 ·simp only [Ak] at o;subst o;cases h with | eif h1 h2=>exact .eif h1 h2
 ·simp only [Ak] at o;subst o;cases h with | acc h=>exact .slice h
 ·simp only [Ak] at o;subst o;cases h with | lit h=>exact .slice h
 ·simp only [Ak] at o;subst o;cases h with | sln h=>exact .slice h
 ·split at o
  ·split at o
   ·simp only [Ak] at o;subst o;cases h;exact .slice (.nil λ_=>rfl)
   ·simp at o
  ·simp at o
 ·rename_i z J;cases H:isOf P z (.agg z J) with
  | false=>grind
  | true=>
   rw [H] at o;simp only [Af,Ak] at o;subst o;have hr:=aa2 h z H;cases h with
   | agg M=>exact .data (amy M) (by grind [Value.cells])
 ·simp at o
structure Emb (ρ:Nat->Option Nat) (γ:Nat->Nat) (ow1:Own) (μ1:Nat->Nat) (st1:List BX) (ow2:Own) (μ2:Nat->Nat) (st2:List BX):Prop where
 obj:∀ (j k:Nat) (b:BX),ρ j=some k->st1[j]?=some b->∃ b',st2[k]?=some b'/\b'.kind=b.kind/\((∀ g,b≠.acc g)->μ2 k=μ1 j)/\((∃ g,b=.acc g)->b'=.acc (γ j))/\(∀ E g xs,b=.arr E g xs->b'=.arr E (γ j) xs)
 own:∀ (j k b:Nat),ρ j=some k->ow1 b=some j->ow2 b=some k
theorem ah5 {st:List BX}{H:Nat->Option Nat}{z:Nat->Nat}:∀ {l o:List SV},renL st H z l=some o->o.length=l.length/\∀ (i:Nat) (x:SV),o[i]?=some x->∃ y,l[i]?=some y/\renS st H z y=some x:=by
 intro l;induction l with
 | nil=>intro o h;simp only [renL,Ak] at h;grind
 | cons s r I=>intro o h;simp only [renL] at h;grind
theorem aew {P:Program}{ρ:Nat->Option Nat}{γ:Nat->Nat}{aa:Own}{ad:Nat->Nat}{ab:List BX} (m:Emb ρ γ ow μ st aa ad ab) {s:SV}{v:Value} (h:SRep P D w ow μ st s v):∀ {I:SV},renS st ρ γ s=some I->SRep P D w aa ad ab I v:=by
 induction h with
 | undef=>intro I o;simp only [renS,Ak] at o;subst o;exact .undef
 | bool=>intro I o;simp only [renS,Ak] at o;subst o;exact .bool
 | int=>intro I o;simp only [renS,Ak] at o;subst o;exact .int
 | str=>intro I o;simp only [renS,Ak] at o;subst o;exact .str
 | slice h=>intro I o;simp only [renS,Ak] at o;subst o;exact .slice h
 | data hT h=>intro I o;simp only [renS,Ak] at o;subst o;exact .data hT h
 | agg hT hl ho hv _ ih=>
  intro I o;simp only [renS] at o;split at o
  ·rename_i gs hg;simp only [Ak] at o;subst o;obtain ⟨H,M⟩:=ah5 hg;refine .agg hT hl ho (by grind) (λi x f hx hf=>?_);grind
  ·cases o
 | map h=>intro I o;simp only [renS,Ak] at o;subst o;exact .map h
 | nils=>intro I o;simp only [renS,Ak] at o;subst o;exact .nils
 | lit h=>intro I o;simp only [renS,Ak] at o;subst o;exact .slice h
 | sln h=>intro I o;simp only [renS,Ak] at o;subst o;exact .slice h
 | mitr J=>grind [renS]
 | @acc k g g0 E xs v h J hg ho=>
  intro I o;simp only [renS,Ak] at o;split at o
  ·rename_i O z;cases ha:anh st k g with
   | false=>rw [ha] at o;simp only [Ah] at o;subst o;exact .slice h
   | true=>
    rw [ha] at o;simp only [Af] at o;subst o;obtain ⟨b',H,M,Z,h4,_⟩:=m.obj k O _ z J;rw [h4 ⟨_,rfl⟩] at H;refine .acc h H (Nat.le_refl _) (λ_=>?_);have ae:g=g0:=by grind [anh,Nat.eq_of_beq_eq_true]
    rcases ho ae with ho | ⟨b,off,cap,cur,q1,q2,q3,q4,q5,q6,q7⟩
    ·exact Or.inl ho
    ·exact Or.inr ⟨b,off,cap,cur,q1,q2,q3,q4,q5,m.own k O b z q6,q7⟩
  ·subst o;exact .slice h
 | ref J hp=>
  intro I o;simp only [renS] at o;split at o
  ·rename_i O z;simp only [Ak] at o;subst o;obtain ⟨b',H,M,Z,_⟩:=m.obj _ O _ z J;obtain ⟨s1,rfl⟩:=am4 M;rw [<-Z (by simp)];exact .ref H hp
  ·cases o
 | mref J=>
  intro I o;simp only [renS] at o;split at o
  ·rename_i O z;simp only [Ak] at o;subst o;obtain ⟨b',H,M,Z,_⟩:=m.obj _ O _ z J;obtain ⟨s1,rfl⟩:=ays M;rw [<-Z (by simp)];exact .mref H
  ·cases o
 | iref J=>grind [renS]
 | bref J=>
  intro I o;simp only [renS] at o;split at o
  ·rename_i O z;simp only [Ak] at o;subst o;obtain ⟨b',H,M,Z,_⟩:=m.obj _ O _ z J;obtain ⟨s1,rfl⟩:=ayr M;rw [<-Z (by simp)];exact .bref H
  ·cases o
 | nx H M=>grind [renS]
 | eif H M=>intro I o;simp only [renS,Ak] at o;subst o;exact .eif H M
 | ifc _ ih=>
  intro I o;simp only [renS] at o;split at o
  ·rename_i x hx;simp only [Ak] at o;subst o;exact .ifc (ih hx)
  ·cases o
 | pto H M=>intro I o;simp only [renS,Ak] at o;subst o;exact .pto H M
 | fn ah ai _ ih=>
  intro I o;simp only [renS] at o;split at o
  ·rename_i gs hg;simp only [Ak] at o;subst o;obtain ⟨H,M⟩:=ah5 hg;refine .fn ah (by grind) (λi x u hx hu=>?_);grind
  ·cases o
 | tup ai _ ih=>grind [renS]
 | raw=>intro I o;simp only [renS,Ak] at o;subst o;exact .raw
 | eref J hT hi=>
  intro I o;simp only [renS] at o;split at o
  ·rename_i O z;simp only [Ak] at o;subst o;obtain ⟨b',H,M,Z,_⟩:=m.obj _ O _ z J;obtain ⟨s1,rfl⟩:=am4 M;rw [<-Z (by simp)];exact .eref H hT hi
  ·cases o
 | avwOld=>grind [renS]
 | avw=>grind [renS]
 | lits=>grind [renS]
 | asl J hT hi hc=>
  intro I o;simp only [renS] at o;split at o
  ·rename_i O z;simp only [Ak] at o;subst o;obtain ⟨b',H,M,Z,_⟩:=m.obj _ O _ z J;obtain ⟨s1,rfl⟩:=am4 M;rw [<-Z (by simp)];exact .asl H hT hi hc
  ·cases o
 | @arrOld k g g0 E E' xs v J af ho=>grind [renS,afn,Nat.beq,Nat.eq_of_beq_eq_true]
 | @arrNil k g E a J=>
  intro I o;simp only [renS] at o;split at o
  ·rename_i O z;cases ha:afn st k g with
   | false=>grind
   | true=>rw [ha] at o;simp only [Af,Ak] at o;subst o;obtain ⟨b',H,M,Z,_,h5⟩:=m.obj k O _ z J;rw [h5 _ _ _ rfl] at H;exact .arrNil H
  ·cases o
 | @arr k g cap E xs cur J hl ag hc ho aj=>
  intro I o;simp only [renS] at o;split at o
  ·rename_i O z;cases ha:afn st k g with
   | false=>grind
   | true=>rw [ha] at o;simp only [Af,Ak] at o;subst o;obtain ⟨b',H,M,Z,_,h5⟩:=m.obj k O _ z J;rw [h5 _ _ _ rfl] at H;have e:=Z (by simp);rw [<-e];exact .arr H hl ag (by rw [e];exact hc) (by rw [e];exact m.own k O _ z ho) aj
  ·cases o
 | @arefOld k g g0 i E E' T path xs v J af ho=>grind [renS,afn,Nat.beq,Nat.eq_of_beq_eq_true]
 | @aref k g i off E T path xs cur J hl hp hc ho=>
  intro I o;simp only [renS] at o;split at o
  ·rename_i O z;cases ha:afn st k g with
   | false=>grind
   | true=>rw [ha] at o;simp only [Af,Ak] at o;subst o;obtain ⟨b',H,M,Z,_,h5⟩:=m.obj k O _ z J;rw [h5 _ _ _ rfl] at H;have e:=Z (by simp);rw [<-e];exact .aref H hl hp (by rw [e];exact hc) (by rw [e];exact m.own k O _ z ho)
  ·cases o
theorem auw {P:Program}{ρ:Nat->Option Nat}{γ:Nat->Nat}{H:Own}{J:Nat->Nat}{I:List BX} (m:Emb ρ γ ow μ st H J I) {rs o:List SV}{v:Value} (h:SRep P D w ow μ st (adg rs) v) (hr:renL st ρ γ rs=some o):SRep P D w H J I (adg o) v:=by
 obtain ⟨h1,h2⟩:=ah5 hr;by_cases z:rs.length=1
 ·match rs,z,o,h1 with
  | [s],_,[s'],_=>obtain ⟨y,hy,M⟩:=h2 0 s' rfl;simp at hy;subst hy;exact aew m h M
 ·have O:∀ l:List SV,l.length≠1->adg l=.tup l:=by
   intro l z;match l,z with
   | [],_=>rfl
   | [x],z=>grind
   | x::y::r,_=>rfl
  rw [O rs z] at h;rw [O o (by omega)];cases h with
  | tup hs Z=>refine .tup (by grind) (λi x u hx hu=>?_);grind [aew]
theorem a0z {P:Program}{ρ:Nat->Option Nat}{γ:Nat->Nat}{H:Own}{J:Nat->Nat}{I:List BX} (m:Emb ρ γ ow μ st H J I) {rs o:List SV}{v:Value} (h:ahk P D w ow μ st rs v) (z:renL st ρ γ rs=some o):ahk P D w H J I o v/\ahq o v=ahq rs v:=by
 rcases abz h with ⟨s,rfl,O,h2⟩ | ⟨aa,O,h2⟩
 ·simp only [renL,renS] at z;split at z
  ·rename_i x q M Z;simp only [Ak] at Z z;subst Z;subst z;split at M
   ·rename_i y hy;simp only [Ak] at M;subst M;exact ⟨aew m O hy,rfl⟩
   ·cases M
  ·cases z
 all_goals grind [afa,auw]
theorem acl {I:Nat->Option Nat}{H:Nat->Nat}{k:Nat}{b o:BX} (h:ah4 st I H k b=some o):o.kind=b.kind/\((∃ g,b=.acc g)->o=.acc (H k))/\(∀ E g xs,b=.arr E g xs->o=.arr E (H k) xs):=by
 unfold ah4 at h;split at h
 ·split at h
  ·cases h;exact ⟨rfl,(λ⟨g,z⟩=>by cases z),λE g xs e=>by cases e⟩
  ·cases h
 ·cases h;exact ⟨rfl,λ_=>rfl,λE g xs e=>by cases e⟩
 ·cases h;exact ⟨rfl,(λ⟨g,z⟩=>by cases z),λE g xs e=>by cases e;rfl⟩
 all_goals grind
theorem ObjIn.ren {P:Program}{ρ:Nat->Option Nat}{γ:Nat->Nat}{I:Own}{aa:Nat->Nat}{ab:List BX} (m:Emb ρ γ ow μ st I aa ab) {j k:Nat}{b b':BX} (hj:st[j]?=some b) (hk:ρ j=some k) (h:ObjIn P D w ow μ st j b) (o:ah4 st ρ γ j b=some b'):ObjIn P D w I aa ab k b':=by
 obtain ⟨b2,_,_,z,_⟩:=m.obj j k b hk hj;cases b with
 | box T s=>
  simp only [ah4] at o;split at o
  ·rename_i x hx;cases o;have e:=z (by simp);obtain ⟨H,T',J,M,O,Z,q5⟩:=h;exact ⟨H,T',by rw [e];exact J,M,by rw [e];exact m.own j k _ hk O,by rw [e];exact Z,aew m q5 hx⟩
  ·cases o
 | map K E es=>simp only [ah4,Ak] at o;subst o;have e:=z (by simp);obtain ⟨ents,clock,kc,vc,J,M,O,Z⟩:=h;exact ⟨ents,clock,kc,vc,by rw [e];exact J,by rw [e];exact m.own j k _ hk M,by rw [e];exact O,Z⟩
 | acc g=>simp only [ah4,Ak] at o;subst o;trivial
 | hole=>simp only [ah4,Ak] at o;subst o;trivial
 | iter s p=>simp [ah4] at o
 | mit K E es=>simp [ah4] at o
 | bld T bs=>
  simp only [ah4,Ak] at o;subst o;have e:=z (by simp);obtain ⟨p,v,J,M,O,Z,q5⟩:=h;refine ⟨p,v,by rw [e];exact J,by rw [e];exact M,by rw [e];exact m.own j k _ hk O,by rw [e];exact Z,?_⟩;rcases q5 with q5 | ⟨g,cap,cur,fz,a1,a2,a4,a5,a6,a7,a8,a9,ad,ae⟩
  ·exact Or.inl q5
  ·exact Or.inr ⟨g,cap,cur,fz,a1,a2,a4,a5,a6,a7,a8,by rw [e];exact a9,m.own j k _ hk ad,ae⟩
 | arr E g xs=>
  simp only [ah4,Ak] at o;subst o;have e:=z (by simp);have h0:asy P D w ow μ j E xs:=h;show asy P D w I aa k E xs;rcases h0 with h0 | ⟨cur,J,M,O,Z,q5⟩
  ·exact Or.inl h0
  ·exact Or.inr ⟨cur,by rw [e];exact J,by rw [e];exact m.own j k _ hk M,by rw [e];exact O,Z,q5⟩
theorem ahl:∀ (l ks:List Nat),ks.Nodup->(afy ks l).Nodup:=by
 intro l;induction l with
 | nil=>intro ks h;exact h
 | cons k r o=>
  intro ks h;unfold afy;refine o _ ?_;cases z:ks.any (Nat.beq k) with
  | true=>simpa using h
  | false=>simp only [Ah];grind [List.nodup_append,Nat.beq,List.any_eq_true,Nat.beq_refl]
theorem agr:∀ (l ks:List Nat),∃ r,afy ks l=ks++r:=by
 intro l;induction l with
 | nil=>intro ks;exact ⟨[],by simp [afy]⟩
 | cons k r h=>intro ks;unfold afy;obtain ⟨q,o⟩:=h (bif ks.any (Nat.beq k) then ks else ks++[k]);grind
theorem aou:∀ (n:Nat) (ks:List Nat),ks.Nodup->(reach st n ks).Nodup:=by
 intro n;induction n with
 | zero=>intro ks h;exact h
 | succ n o=>intro ks h;exact o _ (ahl _ _ h)
theorem amj:∀ (n:Nat) (ks:List Nat),∃ r,reach st n ks=ks++r:=by
 intro n;induction n with
 | zero=>intro ks;exact ⟨[],by simp [reach]⟩
 | succ n h=>intro ks;obtain ⟨r,z⟩:=h (afy ks (ks.flatMap (a4j st)));obtain ⟨q,o⟩:=agr (ks.flatMap (a4j st)) ks;grind [reach,List.append_assoc]
theorem adw (st:List BX) (args:List SV):(aap st args).Nodup:=aou _ _ (ahl _ _ (by simp))
theorem ama (own:Bool) (st:List BX) (np:Nat) (h:List SV):(af3 own st np h).Nodup:=aou _ _ (ahl _ _ List.nodup_range)
theorem aj7 (own:Bool) (st:List BX) (np:Nat) (h:List SV):∃ r,af3 own st np h=List.range np++r:=by obtain ⟨r,z⟩:=amj (st:=st) 4 (afy (List.range np) (aga false st h++(bif own then aqu st h else [])));obtain ⟨q,o⟩:=agr (aga false st h++(bif own then aqu st h else [])) (List.range np);grind [af3,List.append_assoc]
theorem axc {st:List BX}{args:List SV} (h:aap st args=[]):aga false st args=[]:=by
 obtain ⟨r,H⟩:=amj (st:=st) 4 (afy [] (aga false st args));unfold aap at h;rw [H] at h;have o:=(List.append_eq_nil_iff.1 h).1;cases z:aga false st args with
 | nil=>rfl
 | cons k r=>rw [z] at o;unfold afy at o;obtain ⟨q,I⟩:=agr r (bif ([]:List Nat).any (Nat.beq k) then [] else []++[k]);grind
theorem arn {k:Nat}:∀ {ks:List Nat},ks.any (Nat.beq k)=true->ks[idx k ks]?=some k:=by
 intro ks;induction ks with
 | nil=>grind
 | cons x r z=>
  intro h;unfold idx;cases o:Nat.beq k x with
  | true=>grind [Nat.eq_of_beq_eq_true]
  | false=>grind
theorem alf {ks:List Nat}{k j:Nat} (h:acd ks k=some j):ks[j]?=some k:=by
 unfold acd at h;cases o:ks.any (Nat.beq k) with
 | false=>grind
 | true=>rw [o] at h;simp only [Af,Ak] at h;grind [arn]
theorem aoj {ks:List Nat} (z:ks.Nodup) {i j k:Nat} (h:ks[i]?=some k) (o:ks[j]?=some k):i=j:=by grind [List.getElem?_eq_some_iff,Nat.lt_trichotomy,absurd,List.pairwise_iff_getElem]
theorem ayn {ks:List Nat} (z:ks.Nodup) {k j:Nat} (h:ks[j]?=some k):acd ks k=some j:=by have o:ks.any (Nat.beq k)=true:=List.any_eq_true.2 ⟨k,List.mem_of_getElem? h,Bg k⟩;unfold acd;rw [o];simp only [Af,Ak];grind [aoj,arn]
theorem aiw {H:Nat->Option Nat}{z:Nat->Nat}:∀ (ks:List Nat) (sub:List BX),ahh st H z ks=some sub->sub.length=ks.length/\∀ (j k:Nat),ks[j]?=some k->∃ b o,st[k]?=some b/\ah4 st H z k b=some o/\sub[j]?=some o:=by
 intro ks;induction ks with
 | nil=>intro sub h;simp [ahh] at h;grind
 | cons x r I=>intro sub h;unfold ahh at h;grind
def agi (ow:Own) (ks:List Nat) (b:Nat):Option Nat:=match ow b with | some k=>acd ks k | none=>none
theorem aeu {ks:List Nat}{b j:Nat} (h:agi ow ks b=some j):∃ k,ks[j]?=some k/\ow b=some k:=by grind [agi,alf]
theorem ar7 {ks:List Nat} (z:ks.Nodup) {j k b:Nat} (o:ks[j]?=some k) (h:ow b=some k):agi ow ks b=some j:=by grind [agi,ayn]
theorem aln {ks:List Nat}{b:Nat} (h:∀ k,k∈ks->ow b≠some k):agi ow ks b=none:=by
 cases o:agi ow ks b with
 | none=>rfl
 | some j=>grind [aeu,absurd,List.mem_of_getElem?]
theorem Emb.sub {ks:List Nat}{sub:List BX}{H:Nat->Nat} (O:ks.Nodup) (Z:ahh st (acd ks) H ks=some sub):Emb (acd ks) H ow μ st (agi ow ks) (λj=>μ (ks.getD j 0)) sub:=by obtain ⟨h1,J⟩:=aiw ks sub Z;refine ⟨λk j b h M=>?_,λk j b h ob=>ar7 O (alf h) ob⟩;have o:=alf h;obtain ⟨b0,I,z,q2,q3⟩:=J j k o;rw [M] at z;cases z;obtain ⟨r1,r2⟩:=acl q2;exact ⟨I,q3,r1,λ_=>by simp [List.getD,o],r2⟩
theorem Objs.sub {P:Program} (h:Objs P D ow μ st w) {ks:List Nat}{sub:List BX}{γ:Nat->Nat} (hn:ks.Nodup) (hs:ahh st (acd ks) γ ks=some sub):Objs P D (agi ow ks) (λj=>μ (ks.getD j 0)) sub w:=by
 have m:=Emb.sub (ow:=ow) (μ:=μ) hn hs;obtain ⟨h1,h2⟩:=aiw ks sub hs;refine ⟨λj b' hj=>?_,λb j O=>?_,h.dlt,λb j x O hx H o d=>?_⟩
 ·have Z:j<ks.length:=by grind
  have I:ks[j]?=some ks[j]:=Am Z;obtain ⟨b0,b1,M,q2,J⟩:=h2 j _ I;rw [hj] at J;cases J;exact (h.obj _ _ M).ren m M (ayn hn I) q2
 ·obtain ⟨k,I,z⟩:=aeu O;exact ⟨(h.owlt _ _ z).1,by grind⟩
 ·obtain ⟨k,I,z⟩:=aeu O;obtain ⟨b0,b1,M,q2,J⟩:=h2 j k I;rw [hx] at J;cases J;exact h.lone b k b0 z M (af9 (acl q2).1.symm H) o d
theorem WRel.objs (h:WRel Γ D ow μ st w):Objs Γ.P D ow μ st w:=by
 refine ⟨λk b o=>?_,h.owlt,h.dlt,h.lone⟩;cases b with
 | box T s=>exact h.box k T s o
 | map K E es=>exact h.map k K E es o
 | acc g=>trivial
 | hole=>trivial
 | _=>exact h.obj k _ o
end
end Go.Ab
namespace Go.Ab
open Go
section
variable {Γ:Ctx}{D:Dom}{ow:Own}{μ:Nat->Nat}{st:List BX}{w:World}
theorem WRel.letGo (z:WRel Γ D ow μ st w) (H:Γ.np=0) (fz:List Nat):WRel Γ (ac3 D ow μ st fz) (λ_=>none) μ [] w:=by
 refine ⟨λk T s h=>(by simp at h),λk K E es h=>(by simp at h),λk b h=>(by simp at h),λb k h=>(by cases h),λb o d=>?_,z.os,z.tape,z.output,z.hs,z.old,λb o d=>Or.inl (z.dom0 b o d),λb o d=>?_,λb k h=>(by cases h),(by rw [H];exact Nat.zero_le _),λk h=>(by omega),λk h=>(by omega),λb k x h=>(by cases h),z.keep0,λk h=>(by omega)⟩
 ·rcases adr d with d | ⟨k,_,h,_⟩
  ·exact z.dlt b o d
  ·exact (z.owlt b k h).1
 ·rcases adr d with d | ⟨k,_,h,_⟩
  ·exact z.domN b o d
  ·by_cases I:b<Γ.B
   ·exact Or.inr (Or.inr (by rw [z.owN b k h I];simp))
   ·exact Or.inr (Or.inl (by omega))
theorem a0h {P:Program}{args H:List SV}{o:Array Value} (hw:WRel Γ D ow μ st w) (hP:P=Γ.P) (I:∀ (i:Nat) (s:SV) (v:Value),args[i]?=some s->o[i]?=some v->SRep Γ.P D w ow μ st s v) (hr:renL st (λ_=>none) (λ_=>0) (frzL st args)=some H):
 H.length=args.length/\∀ (i:Nat) (s:SV) (v:Value),H[i]?=some s->o[i]?=some v->SRep Γ.P (ac3 D ow μ st (as8 args)) w (λ_=>none) μ [] s v:=by
 obtain ⟨h1,h2⟩:=ah5 hr
 have Z:Emb (λ_=>none) (λ_=>0) ow μ st (λ_=>none) μ []:=⟨λ_ _ _ h=>(by simp at h),λ_ _ _ h=>(by simp at h)⟩
 refine ⟨by rw [h1,an3],λi s v hs hv=>?_⟩
 obtain ⟨y,M,J⟩:=h2 i s hs
 rw [aym] at M
 obtain ⟨z,O,rfl⟩:=Option.map_eq_some_iff.1 M
 exact aew Z (aij (fz:=as8 args) hw (I i z v O hv) λk hk=>as9 O hk) J
end
end Go.Ab
