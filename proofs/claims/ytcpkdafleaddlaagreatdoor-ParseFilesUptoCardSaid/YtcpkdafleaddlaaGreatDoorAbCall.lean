/- Calls by contract. -/
import Derived.Test.YtcpkdafleaddlaaGreatDoorAbStep
set_option linter.unusedVariables false
set_option linter.unusedSimpArgs false
set_option linter.unnecessarySimpa false
namespace Go.Ab
open Go
def atg (P:Program) (D:Dom) (w:World) (s:SV) (v:Value):Prop:=∀ (ow:Own) (μ:Nat->Nat) (st:List BX),SRep P D w ow μ st s v
def ObjIn (P:Program) (D:Dom) (w:World) (ow:Own) (μ:Nat->Nat) (st:List BX) (k:Nat):BX->Prop
 | .box T s=>BoxRep P D w ow μ st k T s
 | .map K E es=>OMapRep P D w ow μ k K E es
 | .acc _=>True
 | .iter s p=>ObjRep P D w ow μ k (.iter s p)
 | .bld T bs=>ObjRep P D w ow μ k (.bld T bs)
 | .arr E g xs=>ObjRep P D w ow μ k (.arr E g xs)
 | .hole=>True
structure Objs (P:Program) (D:Dom) (ow:Own) (μ:Nat->Nat) (st:List BX) (w:World):Prop where
 obj:∀ (k:Nat) (b:BX),st[k]?=some b->ObjIn P D w ow μ st k b
 owlt:∀ b k,ow b=some k->b<w.heap.size/\k<st.length
 dlt:∀ b o,D b o->b<w.heap.size
 lone:∀ (b k:Nat) (x:BX),ow b=some k->st[k]?=some x->(∀ g,x≠.acc g)->∀ o,¬D b o
structure Pre (P:Program) (D:Dom) (ow:Own) (μ:Nat->Nat) (st:List BX) (w:World) (as:List SV) (vals:Array Value):Prop where
 size:vals.size=as.length
 arg:∀ (i:Nat) (s:SV) (v:Value),as[i]?=some s->vals[i]?=some v->SRep P D w ow μ st s v
 objs:Objs P D ow μ st w
 tabs:Tabs P ow w
theorem Pre.dlt {P:Program}{D:Dom}{ow:Own}{μ:Nat->Nat}{st:List BX}{w:World}{z:List SV}{d:Array Value} (m:Pre P D ow μ st w z d):∀ b o,D b o->b<w.heap.size:=m.objs.dlt
def ahw (rs:List SV) (v:Value):Ending:=
 match rs with
 | [.pan _]=>.panicked [{ v,recovered:=false }]
 | _=>.returned v
def ahc (P:Program) (D:Dom) (w:World) (ow:Own) (μ:Nat->Nat) (st:List BX) (rs:List SV) (v:Value):Prop:=
 match rs with
 | [.pan s]=>SRep P D w ow μ st s v
 | rs=>SRep P D w ow μ st (ad2 rs) v
theorem aic {P:Program}{D:Dom}{w:World}{ow:Own}{μ:Nat->Nat}{st:List BX}{rs:List SV}{v:Value} (h:SRep P D w ow μ st (ad2 rs) v):ahc P D w ow μ st rs v/\ahw rs v=.returned v:=by
 unfold ahc ahw;split
 ·cases h
 grind
theorem acx {P:Program}{D:Dom}{w:World}{ow:Own}{μ:Nat->Nat}{st:List BX}{rs:List SV}{v:Value} (h:ahc P D w ow μ st rs v):
 (∃ s,rs=[.pan s]/\SRep P D w ow μ st s v/\ahw rs v=.panicked [{ v,recovered:=false }])\/((∀ s,rs≠[.pan s])/\SRep P D w ow μ st (ad2 rs) v/\ahw rs v=.returned v):=by
 unfold ahc at h
 split at h
 ·rename_i s;exact Or.inl ⟨s,rfl,h,rfl⟩
 ·rename_i d;refine Or.inr ⟨λs e=>d s e,h,?_⟩;unfold ahw;grind
structure Rest (P:Program) (D:Dom) (w:World) (ow:Own) (μ:Nat->Nat) (st:List BX) (rs:List SV) (st':List BX) (v:Value) (D':Dom) (w':World) (ow':Own) (μ':Nat->Nat):Prop where
 objs:Objs P D' ow' μ' st' w'
 res:ahc P D' w' ow' μ' st' rs v
 own:∀ b k,ow' b=some k->b<w.heap.size->ow b=some k
 keep:∀ (k:Nat) (b:BX),st[k]?=some b->∃ b',st'[k]?=some b'/\b'.kind=b.kind/\((∀ g,b≠.acc g)->(∀ E g xs,b≠.arr E g xs)->μ' k=μ k)
 same:∀ (k:Nat) (E:TypeId) (g:Nat) (xs ys:List PV),st[k]?=some (.arr E g xs)->st'[k]?=some (.arr E 0 ys)->ys.length=xs.length/\ArrKeep w ow μ w' ow' μ' k E
structure Post (P:Program) (D:Dom) (w:World) (ow:Own) (μ:Nat->Nat) (st:List BX) (rs:List SV) (st':List BX) (v:Value) (D':Dom) (w':World):Prop where
 dom:∀ b o,D b o->D' b o
 new:∀ b o,D' b o->D b o\/w.heap.size<=b\/ow b≠none
 rest:∃ (ow':Own) (μ':Nat->Nat),Rest P D w ow μ st rs st' v D' w' ow' μ'
 os:w'.os=w.os
 tape:w'.tape=w.tape
 output:w'.output=w.output
 size:w.heap.size<=w'.heap.size
 old:∀ b,b<w.heap.size->ow b=none->w'.heap[b]?=w.heap[b]?
 keeps:Keeps D w w'
def aj1 (P:Program) (f:FuncId):Prop:=∀ (args:Array Value) (w:World),(callFunc f args).run P w=.ok (.enter f args) w
def Meets (P:Program) (f:FuncId) (m:List SV) (st:List BX) (rs:List SV) (st':List BX):Prop:=
 aj1 P f/\∀ (D:Dom) (ow:Own) (μ:Nat->Nat) (w:World) (d:Array Value),Pre P D ow μ st w m d->
  Calls P f d w λe w'=>∃ v D',e=ahw rs v/\Post P D w ow μ st rs st' v D' w'
theorem aa5 {P:Program}{f:FuncId}{fn:Func} (o:P.funcs[f]?=some fn) (z:(fn.name== "runtime.NumGoroutine")=false) (H:fn.body.isNone=false):aj1 P f:=by
 intro args w;have m:fn.name≠ "runtime.NumGoroutine":=by simpa using z
 have d:fn.body≠none:=λe=>by grind
 simp [callFunc,o,m,d]
theorem am0 {b:BX}{T:TypeId}{s:SV} (h:b.kind=(BX.box T s).kind):∃ d,b=.box T d:=by cases b<;>simp [BX.kind] at h;simp_all
theorem ay0 {b:BX}{T:TypeId}{s:Bq} (h:b.kind=(BX.bld T s).kind):∃ d,b=.bld T d:=by cases b<;>simp [BX.kind] at h;simp_all
theorem ay1 {b:BX}{K E:TypeId}{s:List (PV×PV)} (h:b.kind=(BX.map K E s).kind):∃ d,b=.map K E d:=by cases b<;>simp [BX.kind] at h;simp_all
theorem a4x {b:BX}{s:Bq}{p:Nat} (h:b.kind=(BX.iter s p).kind):∃ d p',b=.iter d p':=by cases b<;>simp [BX.kind] at h;grind
theorem a9j {b:BX}{g:Nat} (h:b.kind=(BX.acc g).kind):∃ d,b=.acc d:=by cases b<;>simp [BX.kind] at h;grind
theorem auk {b d:BX} (h:d.kind=b.kind) (o:∀ E g xs,b≠.arr E g xs):∀ E g xs,d≠.arr E g xs:=by intro E g xs e;subst e;obtain ⟨m,z,rfl⟩:=aiw h.symm;grind
theorem aga {b d:BX} (h:d.kind=b.kind) (m:∀ g,b≠.acc g):∀ g,d≠.acc g:=by intro g e;subst e;cases b<;>simp [BX.kind] at h;exact m _ rfl
section
variable {Γ:Ctx}{D:Dom}{ow:Own}{μ:Nat->Nat}{st:List BX}{w:World}
theorem adk {P:Program}{T:Option TypeId}{s z:SV}{v:Value} (h:SRep P D w ow μ st s v) (d:ann P T s=some z):atg P D w z v:=by
 intro M O st';unfold ann at d;split at d
 ·simp only [Ak] at d;subst d;cases h;exact .bool
 ·simp only [Ak] at d;subst d;cases h;exact .int
 ·simp only [Ak] at d;subst d;cases h;exact .str
 ·simp only [Ak] at d;subst d;cases h with | slice h=>exact .slice h
 ·simp only [Ak] at d;subst d;cases h with | data h1 h2=>exact .data h1 h2
 ·simp only [Ak] at d;subst d;cases h with | map h=>exact .map h
 ·simp only [Ak] at d;subst d;cases h;exact .raw
 ·simp only [Ak] at d;subst d;cases h with | pto h1 h2=>exact .pto h1 h2
 ·simp only [Ak] at d;subst d;cases h with | eif h1 h2=>exact .eif h1 h2
 ·simp only [Ak] at d;subst d;cases h with | acc h=>exact .slice h
 ·simp only [Ak] at d;subst d;cases h with | lit h=>exact .slice h
 ·split at d
  ·split at d
   ·simp only [Ak] at d;subst d;cases h;exact .slice (.nil λ_=>rfl)
   ·simp at d
  ·simp at d
 ·rename_i m fs;cases o:isOf P m (.agg m fs) with
  | false=>grind
  | true=>
   rw [o] at d;simp only [Ad,Ak] at d;subst d;have U:=abk h m o;cases h with
   | agg H=>exact .data (by simp [aak,H]) (by grind [Value.cells])
 ·simp at d
structure Emb (ρ:Nat->Option Nat) (γ:Nat->Nat) (ow1:Own) (μ1:Nat->Nat) (st1:List BX) (ow2:Own) (μ2:Nat->Nat) (st2:List BX):Prop where
 obj:∀ (j k:Nat) (b:BX),ρ j=some k->st1[j]?=some b->∃ b',st2[k]?=some b'/\b'.kind=b.kind/\((∀ g,b≠.acc g)->μ2 k=μ1 j)/\((∃ g,b=.acc g)->b'=.acc (γ j))/\(∀ E g xs,b=.arr E g xs->b'=.arr E (γ j) xs)
 own:∀ (j k b:Nat),ρ j=some k->ow1 b=some j->ow2 b=some k
theorem aky {st:List BX}{o:Nat->Option Nat}{m:Nat->Nat}:∀ {l d:List SV},renL st o m l=some d->d.length=l.length/\∀ (i:Nat) (x:SV),d[i]?=some x->∃ y,l[i]?=some y/\renS st o m y=some x:=by
 intro l;induction l with
 | nil=>intro d h;simp only [renL,Ak] at h;grind
 | cons s r z=>intro d h;simp only [renL] at h;grind
theorem agj {P:Program}{ρ:Nat->Option Nat}{γ:Nat->Nat}{aa:Own}{ad:Nat->Nat}{ab:List BX} (m:Emb ρ γ ow μ st aa ad ab) {s:SV}{v:Value} (h:SRep P D w ow μ st s v):∀ {H:SV},renS st ρ γ s=some H->SRep P D w aa ad ab H v:=by
 induction h with
 | undef=>intro H d;simp only [renS,Ak] at d;subst d;exact .undef
 | bool=>intro H d;simp only [renS,Ak] at d;subst d;exact .bool
 | int=>intro H d;simp only [renS,Ak] at d;subst d;exact .int
 | str=>intro H d;simp only [renS,Ak] at d;subst d;exact .str
 | slice h=>intro H d;simp only [renS,Ak] at d;subst d;exact .slice h
 | data hT h=>intro H d;simp only [renS,Ak] at d;subst d;exact .data hT h
 | agg hT hl W hv _ ih=>
  intro H d;simp only [renS] at d;split at d
  ·rename_i gs hg;simp only [Ak] at d;subst d;obtain ⟨z,M⟩:=aky hg;refine .agg hT hl W (by grind) (λi x f hx hf=>?_);grind
  ·cases d
 | map h=>intro H d;simp only [renS,Ak] at d;subst d;exact .map h
 | nils=>intro H d;simp only [renS,Ak] at d;subst d;exact .nils
 | lit h=>intro H d;simp only [renS,Ak] at d;subst d;exact .slice h
 | @acc k g g0 E xs v h O hg W=>
  intro H d;simp only [renS,Ak] at d;split at d
  ·rename_i U o;cases Y:apf st k g with
   | false=>rw [Y] at d;simp only [Ae] at d;subst d;exact .slice h
   | true=>
    rw [Y] at d;simp only [Ad] at d;subst d;obtain ⟨X,z,M,V,h4,_⟩:=m.obj k U _ o O;rw [h4 ⟨_,rfl⟩] at z;refine .acc h z (Nat.le_refl _) (λ_=>?_);have ae:g=g0:=by grind [apf,Nat.eq_of_beq_eq_true]
    rcases W ae with W | ⟨b,cap,Z,q1,q2,q3,q4,q5,q6,q7⟩
    ·exact Or.inl W
    ·exact Or.inr ⟨b,cap,Z,q1,q2,q3,q4,q5,m.own k U b o q6,q7⟩
  ·subst d;exact .slice h
 | ref O hp=>
  intro H d;simp only [renS] at d;split at d
  ·rename_i U o;simp only [Ak] at d;subst d;obtain ⟨X,z,M,V,_⟩:=m.obj _ U _ o O;obtain ⟨s1,rfl⟩:=am0 M;rw [<-V (by simp)];exact .ref z hp
  ·cases d
 | mref O=>
  intro H d;simp only [renS] at d;split at d
  ·rename_i U o;simp only [Ak] at d;subst d;obtain ⟨X,z,M,V,_⟩:=m.obj _ U _ o O;obtain ⟨s1,rfl⟩:=ay1 M;rw [<-V (by simp)];exact .mref z
  ·cases d
 | iref O=>grind [renS]
 | bref O=>
  intro H d;simp only [renS] at d;split at d
  ·rename_i U o;simp only [Ak] at d;subst d;obtain ⟨X,z,M,V,_⟩:=m.obj _ U _ o O;obtain ⟨s1,rfl⟩:=ay0 M;rw [<-V (by simp)];exact .bref z
  ·cases d
 | nx z M=>grind [renS]
 | eif z M=>intro H d;simp only [renS,Ak] at d;subst d;exact .eif z M
 | ifc _ ih=>
  intro H d;simp only [renS] at d;split at d
  ·rename_i x hx;simp only [Ak] at d;subst d;exact .ifc (ih hx)
  ·cases d
 | pto z M=>intro H d;simp only [renS,Ak] at d;subst d;exact .pto z M
 | fn ah ai _ ih=>
  intro H d;simp only [renS] at d;split at d
  ·rename_i gs hg;simp only [Ak] at d;subst d;obtain ⟨z,M⟩:=aky hg;refine .fn ah (by grind) (λi x u hx hu=>?_);grind
  ·cases d
 | tup ai _ ih=>grind [renS]
 | raw=>intro H d;simp only [renS,Ak] at d;subst d;exact .raw
 | eref O hT hi=>
  intro H d;simp only [renS] at d;split at d
  ·rename_i U o;simp only [Ak] at d;subst d;obtain ⟨X,z,M,V,_⟩:=m.obj _ U _ o O;obtain ⟨s1,rfl⟩:=am0 M;rw [<-V (by simp)];exact .eref z hT hi
  ·cases d
 | asl O hT hi hc=>
  intro H d;simp only [renS] at d;split at d
  ·rename_i U o;simp only [Ak] at d;subst d;obtain ⟨X,z,M,V,_⟩:=m.obj _ U _ o O;obtain ⟨s1,rfl⟩:=am0 M;rw [<-V (by simp)];exact .asl z hT hi hc
  ·cases d
 | @arrOld k g g0 E E' xs v O af W=>grind [renS,ags,Nat.beq,Nat.eq_of_beq_eq_true]
 | @arrNil k g E a O=>
  intro H d;simp only [renS] at d;split at d
  ·rename_i U o;cases Y:ags st k g with
   | false=>grind
   | true=>rw [Y] at d;simp only [Ad,Ak] at d;subst d;obtain ⟨X,z,M,V,_,h5⟩:=m.obj k U _ o O;rw [h5 _ _ _ rfl] at z;exact .arrNil z
  ·cases d
 | @arr k g cap E xs Z O hl ag hc W aj=>
  intro H d;simp only [renS] at d;split at d
  ·rename_i U o;cases Y:ags st k g with
   | false=>grind
   | true=>rw [Y] at d;simp only [Ad,Ak] at d;subst d;obtain ⟨X,z,M,V,_,h5⟩:=m.obj k U _ o O;rw [h5 _ _ _ rfl] at z;have e:=V (by simp);rw [<-e];exact .arr z hl ag (by rw [e];exact hc) (by rw [e];exact m.own k U _ o W) aj
  ·cases d
 | @arefOld k g g0 i E E' T path xs v O af W=>grind [renS,ags,Nat.beq,Nat.eq_of_beq_eq_true]
 | @aref k g i off E T path xs Z O hl hp hc W=>
  intro H d;simp only [renS] at d;split at d
  ·rename_i U o;cases Y:ags st k g with
   | false=>grind
   | true=>rw [Y] at d;simp only [Ad,Ak] at d;subst d;obtain ⟨X,z,M,V,_,h5⟩:=m.obj k U _ o O;rw [h5 _ _ _ rfl] at z;have e:=V (by simp);rw [<-e];exact .aref z hl hp (by rw [e];exact hc) (by rw [e];exact m.own k U _ o W)
  ·cases d
theorem au8 {P:Program}{Y:Nat->Option Nat}{X:Nat->Nat}{z:Own}{M:Nat->Nat}{H:List BX} (m:Emb Y X ow μ st z M H) {rs d:List SV}{v:Value} (h:SRep P D w ow μ st (ad2 rs) v) (hr:renL st Y X rs=some d):SRep P D w z M H (ad2 d) v:=by
 obtain ⟨Z,h2⟩:=aky hr;by_cases o:rs.length=1
 ·match rs,o,d,Z with
  | [s],_,[s'],_=>obtain ⟨y,W,O⟩:=h2 0 s' rfl;simp at W;subst W;exact agj m h O
 ·have U:∀ l:List SV,l.length≠1->ad2 l=.tup l:=by
   intro l o;match l,o with
   | [],_=>rfl
   | [x],o=>grind
   | x::y::r,_=>rfl
  rw [U rs o] at h;rw [U d (by omega)];cases h with
  | tup hs V=>refine .tup (by grind) (λi x u hx hu=>?_);grind [agj]
theorem a1p {P:Program}{X:Nat->Option Nat}{W:Nat->Nat}{z:Own}{M:Nat->Nat}{H:List BX} (m:Emb X W ow μ st z M H) {rs d:List SV}{v:Value} (h:ahc P D w ow μ st rs v) (o:renL st X W rs=some d):ahc P D w z M H d v/\ahw d v=ahw rs v:=by
 rcases acx h with ⟨s,rfl,U,Y⟩ | ⟨Z,U,Y⟩
 ·simp only [renL,renS] at o;split at o
  ·rename_i x q O V;simp only [Ak] at V o;subst V;subst o;split at O
   ·rename_i y hy;simp only [Ak] at O;subst O;exact ⟨agj m U hy,rfl⟩
   ·cases O
  ·cases o
 all_goals grind [aic,au8]
theorem acn {z:Nat->Option Nat}{o:Nat->Nat}{k:Nat}{b d:BX} (h:aja st z o k b=some d):d.kind=b.kind/\((∃ g,b=.acc g)->d=.acc (o k))/\(∀ E g xs,b=.arr E g xs->d=.arr E (o k) xs):=by
 unfold aja at h;split at h
 ·split at h
  ·cases h;exact ⟨rfl,(λ⟨g,m⟩=>by cases m),λE g xs e=>by cases e⟩
  ·cases h
 ·cases h;exact ⟨rfl,λ_=>rfl,λE g xs e=>by cases e⟩
 ·cases h;exact ⟨rfl,(λ⟨g,m⟩=>by cases m),λE g xs e=>by cases e;rfl⟩
 all_goals grind
theorem ObjIn.ren {P:Program}{ρ:Nat->Option Nat}{γ:Nat->Nat}{M:Own}{Y:Nat->Nat}{aa:List BX} (m:Emb ρ γ ow μ st M Y aa) {j k:Nat}{b b':BX} (hj:st[j]?=some b) (Z:ρ j=some k) (h:ObjIn P D w ow μ st j b) (d:aja st ρ γ j b=some b'):ObjIn P D w M Y aa k b':=by
 obtain ⟨b2,_,_,o,_⟩:=m.obj j k b Z hj;cases b with
 | box T s=>
  simp only [aja] at d;split at d
  ·rename_i x hx;cases d;have e:=o (by simp);obtain ⟨z,T',O,U,V,W,X⟩:=h;exact ⟨z,T',by rw [e];exact O,U,by rw [e];exact m.own j k _ Z V,by rw [e];exact W,agj m X hx⟩
  ·cases d
 | map K E es=>simp only [aja,Ak] at d;subst d;have e:=o (by simp);obtain ⟨ents,clock,kc,vc,O,U,V,W⟩:=h;exact ⟨ents,clock,kc,vc,by rw [e];exact O,by rw [e];exact m.own j k _ Z U,by rw [e];exact V,W⟩
 | acc g=>simp only [aja,Ak] at d;subst d;trivial
 | hole=>simp only [aja,Ak] at d;subst d;trivial
 | iter s p=>simp [aja] at d
 | bld T bs=>
  simp only [aja,Ak] at d;subst d;have e:=o (by simp);obtain ⟨p,v,O,U,V,W,X⟩:=h;refine ⟨p,v,by rw [e];exact O,by rw [e];exact U,by rw [e];exact m.own j k _ Z V,by rw [e];exact W,?_⟩;rcases X with X | ⟨g,cap,H,fz,a1,a2,a4,a5,a6,a7,a8,a9,ab,ad⟩
  ·exact Or.inl X
  ·exact Or.inr ⟨g,cap,H,fz,a1,a2,a4,a5,a6,a7,a8,by rw [e];exact a9,m.own j k _ Z ab,ad⟩
 | arr E g xs=>
  simp only [aja,Ak] at d;subst d;have e:=o (by simp);have h0:ayd P D w ow μ j E xs:=h;show ayd P D w M Y k E xs;rcases h0 with h0 | ⟨H,O,U,V,W,X⟩
  ·exact Or.inl h0
  ·exact Or.inr ⟨H,by rw [e];exact O,by rw [e];exact m.own j k _ Z U,by rw [e];exact V,W,X⟩
theorem ahm:∀ (l ks:List Nat),ks.Nodup->(afy ks l).Nodup:=by
 intro l;induction l with
 | nil=>intro ks h;exact h
 | cons k r d=>
  intro ks h;unfold afy;refine d _ ?_;cases m:ks.any (Nat.beq k) with
  | true=>simpa using h
  | false=>simp only [Ae];grind [List.nodup_append,Nat.beq,List.any_eq_true,Nat.beq_refl]
theorem agq:∀ (l ks:List Nat),∃ r,afy ks l=ks++r:=by
 intro l;induction l with
 | nil=>intro ks;exact ⟨[],by simp [afy]⟩
 | cons k r d=>intro ks;unfold afy;obtain ⟨q,m⟩:=d (bif ks.any (Nat.beq k) then ks else ks++[k]);grind
theorem aov:∀ (n:Nat) (ks:List Nat),ks.Nodup->(axj st n ks).Nodup:=by
 intro n;induction n with
 | zero=>intro ks h;exact h
 | succ n d=>intro ks h;exact d _ (ahm _ _ h)
theorem amg:∀ (n:Nat) (ks:List Nat),∃ r,axj st n ks=ks++r:=by
 intro n;induction n with
 | zero=>intro ks;exact ⟨[],by simp [axj]⟩
 | succ n d=>intro ks;obtain ⟨r,o⟩:=d (afy ks (ks.flatMap (a42 st)));obtain ⟨q,m⟩:=agq (ks.flatMap (a42 st)) ks;grind [axj,List.append_assoc]
theorem aeo (st:List BX) (args:List SV):(aa3 st args).Nodup:=aov _ _ (ahm _ _ (by simp))
theorem al2 (st:List BX) (np:Nat) (d:List SV):(af6 st np d).Nodup:=aov _ _ (ahm _ _ List.nodup_range)
theorem akb (st:List BX) (np:Nat) (d:List SV):∃ r,af6 st np d=List.range np++r:=by obtain ⟨r,o⟩:=amg (st:=st) 4 (afy (List.range np) (agb false st d));obtain ⟨q,m⟩:=agq (agb false st d) (List.range np);grind [af6,List.append_assoc]
theorem axp {st:List BX}{args:List SV} (h:aa3 st args=[]):agb false st args=[]:=by
 obtain ⟨r,o⟩:=amg (st:=st) 4 (afy [] (agb false st args));unfold aa3 at h;rw [o] at h;have d:=(List.append_eq_nil_iff.1 h).1;cases m:agb false st args with
 | nil=>rfl
 | cons k r=>rw [m] at d;unfold afy at d;obtain ⟨q,z⟩:=agq r (bif ([]:List Nat).any (Nat.beq k) then [] else []++[k]);grind
theorem arv {k:Nat}:∀ {ks:List Nat},ks.any (Nat.beq k)=true->ks[idx k ks]?=some k:=by
 intro ks;induction ks with
 | nil=>grind
 | cons x r m=>
  intro h;unfold idx;cases d:Nat.beq k x with
  | true=>grind [Nat.eq_of_beq_eq_true]
  | false=>grind
theorem ale {ks:List Nat}{k j:Nat} (h:adf ks k=some j):ks[j]?=some k:=by
 unfold adf at h;cases d:ks.any (Nat.beq k) with
 | false=>grind
 | true=>rw [d] at h;simp only [Ad,Ak] at h;grind [arv]
theorem aom {ks:List Nat} (o:ks.Nodup) {i j k:Nat} (d:ks[i]?=some k) (m:ks[j]?=some k):i=j:=by grind [List.getElem?_eq_some_iff,Nat.lt_trichotomy,absurd,List.pairwise_iff_getElem]
theorem ayy {ks:List Nat} (m:ks.Nodup) {k j:Nat} (h:ks[j]?=some k):adf ks k=some j:=by have d:ks.any (Nat.beq k)=true:=List.any_eq_true.2 ⟨k,List.mem_of_getElem? h,Bg k⟩;unfold adf;rw [d];simp only [Ad,Ak];grind [aom,arv]
theorem ai7 {o:Nat->Option Nat}{m:Nat->Nat}:∀ (ks:List Nat) (sub:List BX),ajc st o m ks=some sub->sub.length=ks.length/\∀ (j k:Nat),ks[j]?=some k->∃ b d,st[k]?=some b/\aja st o m k b=some d/\sub[j]?=some d:=by
 intro ks;induction ks with
 | nil=>intro sub h;simp [ajc] at h;grind
 | cons x r z=>intro sub h;unfold ajc at h;grind
def agh (ow:Own) (ks:List Nat) (b:Nat):Option Nat:=match ow b with | some k=>adf ks k | none=>none
theorem aey {ks:List Nat}{b j:Nat} (h:agh ow ks b=some j):∃ k,ks[j]?=some k/\ow b=some k:=by grind [agh,ale]
theorem ash {ks:List Nat} (o:ks.Nodup) {j k b:Nat} (m:ks[j]?=some k) (d:ow b=some k):agh ow ks b=some j:=by grind [agh,ayy]
theorem aln {ks:List Nat}{b:Nat} (h:∀ k,k∈ks->ow b≠some k):agh ow ks b=none:=by
 cases d:agh ow ks b with
 | none=>rfl
 | some j=>grind [aey,absurd,List.mem_of_getElem?]
theorem Emb.sub {ks:List Nat}{sub:List BX}{z:Nat->Nat} (U:ks.Nodup) (V:ajc st (adf ks) z ks=some sub):Emb (adf ks) z ow μ st (agh ow ks) (λj=>μ (ks.getD j 0)) sub:=by obtain ⟨h1,M⟩:=ai7 ks sub V;refine ⟨λk j b d O=>?_,λk j b d W=>ash U (ale d) W⟩;have m:=ale d;obtain ⟨b0,H,o,X,Y⟩:=M j k m;rw [O] at o;cases o;obtain ⟨Z,r2⟩:=acn X;exact ⟨H,Y,Z,λ_=>by simp [List.getD,m],r2⟩
theorem Objs.sub {P:Program} (h:Objs P D ow μ st w) {ks:List Nat}{sub:List BX}{γ:Nat->Nat} (hn:ks.Nodup) (hs:ajc st (adf ks) γ ks=some sub):Objs P D (agh ow ks) (λj=>μ (ks.getD j 0)) sub w:=by
 have m:=Emb.sub (ow:=ow) (μ:=μ) hn hs;obtain ⟨h1,Z⟩:=ai7 ks sub hs;refine ⟨λj b' hj=>?_,λb j V=>?_,h.dlt,λb j x V hx H o d=>?_⟩
 ·have W:j<ks.length:=by grind
  have M:ks[j]?=some ks[j]:=An W;obtain ⟨Y,b1,U,X,O⟩:=Z j _ M;rw [hj] at O;cases O;exact (h.obj _ _ U).ren m U (ayy hn M) X
 ·obtain ⟨k,M,z⟩:=aey V;exact ⟨(h.owlt _ _ z).1,by grind⟩
 ·obtain ⟨k,M,z⟩:=aey V;obtain ⟨Y,b1,U,X,O⟩:=Z j k M;rw [hx] at O;cases O;exact h.lone b k Y z U (aga (acn X).1.symm H) o d
theorem WRel.objs (d:WRel Γ D ow μ st w):Objs Γ.P D ow μ st w:=by
 refine ⟨λk b m=>?_,d.owlt,d.dlt,d.lone⟩;cases b with
 | box T s=>exact d.box k T s m
 | map K E es=>exact d.map k K E es m
 | acc g=>trivial
 | hole=>trivial
 | _=>exact d.obj k _ m
end
end Go.Ab
