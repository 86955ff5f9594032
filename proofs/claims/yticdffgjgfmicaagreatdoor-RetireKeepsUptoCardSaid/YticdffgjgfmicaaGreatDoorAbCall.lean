/- Calls by contract. -/
import Derived.Test.YticdffgjgfmicaaGreatDoorAbStep
set_option linter.unusedVariables false
set_option linter.unusedSimpArgs false
set_option linter.unnecessarySimpa false
namespace Go.Ab
open Go
def a6f(P:Program)(D:Dom)(w:World)(s:SV)(v:Value):Prop:=∀(ow:Own)(μ:Nat->Nat)(st:List BX),SRep P D w ow μ st s v
def ObjIn(P:Program)(D:Dom)(w:World)(ow:Own)(μ:Nat->Nat)(st:List BX)(k:Nat):BX->Prop
 |.box T s=>BoxRep P D w ow μ st k T s
 |.map K E es=>OMapRep P D w ow μ k K E es
 |.acc _=>True
 |.iter s p=>ObjRep P D w ow μ k (.iter s p)
 |.bld T bs=>ObjRep P D w ow μ k (.bld T bs)
 |.arr E g xs=>ObjRep P D w ow μ k (.arr E g xs)
 |.mit K E c es=>ObjRep P D w ow μ k (.mit K E c es)
 |.hole=>True
structure Objs(P:Program)(D:Dom)(ow:Own)(μ:Nat->Nat)(st:List BX)(w:World):Prop where
 obj:∀(k:Nat)(b:BX),st[k]?=some b->ObjIn P D w ow μ st k b
 owlt:∀b k,ow b=some k->b<w.heap.size/\k<st.length
 dlt:∀b o,D b o->b<w.heap.size
 lone:∀(b k:Nat)(x:BX),ow b=some k->st[k]?=some x->(∀g,x≠.acc g)->∀o,¬D b o
structure Pre(P:Program)(D:Dom)(ow:Own)(μ:Nat->Nat)(st:List BX)(w:World)(as:List SV)(vals:Array Value):Prop where
 size:vals.size=as.length
 arg:∀(i:Nat)(s:SV)(v:Value),as[i]?=some s->vals[i]?=some v->SRep P D w ow μ st s v
 objs:Objs P D ow μ st w
 tabs:Tabs P ow w
theorem Pre.dlt{P:Program}{D:Dom}{ow:Own}{μ:Nat->Nat}{st:List BX}{w:World}{z:List SV}{m:Array Value}(t:Pre P D ow μ st w z m):∀b o,D b o->b<w.heap.size:=t.objs.dlt
def ah9(rs:List SV)(v:Value):Ending:=
 match rs with
 |[.pan _]=>.panicked [{ v,recovered:=false }]
 |_=>.returned v
def ah3(P:Program)(D:Dom)(w:World)(ow:Own)(μ:Nat->Nat)(st:List BX)(rs:List SV)(v:Value):Prop:=
 match rs with
 |[.pan s]=>SRep P D w ow μ st s v
 |rs=>SRep P D w ow μ st (adp rs) v
theorem agw{P:Program}{D:Dom}{w:World}{ow:Own}{μ:Nat->Nat}{st:List BX}{rs:List SV}{v:Value}(h:SRep P D w ow μ st (adp rs) v):ah3 P D w ow μ st rs v/\ah9 rs v=.returned v:=by
 unfold ah3 ah9;split
 ·cases h
 grind
theorem ab7{P:Program}{D:Dom}{w:World}{ow:Own}{μ:Nat->Nat}{st:List BX}{rs:List SV}{v:Value}(h:ah3 P D w ow μ st rs v):
 (∃s,rs=[.pan s]/\SRep P D w ow μ st s v/\ah9 rs v=.panicked [{ v,recovered:=false }])\/((∀s,rs≠[.pan s])/\SRep P D w ow μ st (adp rs) v/\ah9 rs v=.returned v):=by
 unfold ah3 at h
 split at h
 ·rename_i s;exact Or.inl ⟨s,rfl,h,rfl⟩
 ·rename_i m;refine Or.inr ⟨λs e=>m s e,h,?_⟩;unfold ah9;grind
structure Rest(P:Program)(D:Dom)(w:World)(ow:Own)(μ:Nat->Nat)(st:List BX)(rs:List SV)(st':List BX)(v:Value)(D':Dom)(w':World)(ow':Own)(μ':Nat->Nat):Prop where
 objs:Objs P D' ow' μ' st' w'
 res:ah3 P D' w' ow' μ' st' rs v
 own:∀b k,ow' b=some k->b<w.heap.size->ow b=some k
 keep:∀(k:Nat)(b:BX),st[k]?=some b->∃b',st'[k]?=some b'/\b'.kind=b.kind/\((∀g,b≠.acc g)->(∀E g xs,b≠.arr E g xs)->μ' k=μ k)
 same:∀(k:Nat)(E:TypeId)(g:Nat)(xs ys:List PV),st[k]?=some (.arr E g xs)->st'[k]?=some (.arr E 0 ys)->ys.length=xs.length/\ArrKeep w ow μ w' ow' μ' k E
structure Post(P:Program)(D:Dom)(w:World)(ow:Own)(μ:Nat->Nat)(st:List BX)(rs:List SV)(st':List BX)(v:Value)(D':Dom)(w':World):Prop where
 dom:∀b o,D b o->D' b o
 new:∀b o,D' b o->D b o\/w.heap.size<=b\/ow b≠none
 rest:∃(ow':Own)(μ':Nat->Nat),Rest P D w ow μ st rs st' v D' w' ow' μ'
 os:w'.os=w.os
 tape:w'.tape=w.tape
 output:w'.output=w.output
 size:w.heap.size<=w'.heap.size
 old:∀b,b<w.heap.size->ow b=none->w'.heap[b]?=w.heap[b]?
 keeps:Keeps D w w'
def aoa(P:Program)(f:FuncId):Prop:=∀(args:Array Value)(w:World),(callFunc f args).run P w=.ok (.enter f args) w
def Meets(P:Program)(f:FuncId)(o:List SV)(st:List BX)(rs:List SV)(st':List BX):Prop:=
 aoa P f/\∀(D:Dom)(ow:Own)(μ:Nat->Nat)(w:World)(m:Array Value),Pre P D ow μ st w o m->
  Calls P f m w λe w'=>∃v D',e=ah9 rs v/\Post P D w ow μ st rs st' v D' w'
theorem abc {P:Program}{f:FuncId}{fn:Func} (z:P.funcs[f]?=some fn) (G:(fn.name== "runtime.NumGoroutine")=false) (t:fn.body.isNone=false):aoa P f:=by
 intro args w;have o:fn.name≠ "runtime.NumGoroutine":=by simp_all
 have m:fn.body≠none:=λe=>by grind
 simp_all[callFunc]
theorem aoh{b:BX}{T:TypeId}{s:SV}(h:b.kind=(BX.box T s).kind):∃m,b=.box T m:=by cases b<;>simp[BX.kind]at h;simp_all
theorem a1p{b:BX}{T:TypeId}{s:Bn}(h:b.kind=(BX.bld T s).kind):∃m,b=.bld T m:=by cases b<;>simp[BX.kind]at h;simp_all
theorem a1q{b:BX}{K E:TypeId}{s:List (PV×PV)}(h:b.kind=(BX.map K E s).kind):∃m,b=.map K E m:=by cases b<;>simp[BX.kind]at h;simp_all
theorem a9f{b:BX}{s:Bn}{p:Nat}(h:b.kind=(BX.iter s p).kind):∃m p',b=.iter m p':=by cases b<;>simp[BX.kind]at h;grind
theorem bdu{b:BX}{g:Nat}(h:b.kind=(BX.acc g).kind):∃m,b=.acc m:=by cases b<;>simp[BX.kind]at h;grind
theorem aw1{b m:BX}(h:m.kind=b.kind)(t:∀E g xs,b≠.arr E g xs):∀E g xs,m≠.arr E g xs:=by intro E g xs e;subst e;obtain⟨o,ys,rfl⟩:=ai9 h.symm;grind
theorem agj{b m:BX}(h:m.kind=b.kind)(o:∀g,b≠.acc g):∀g,m≠.acc g:=by intro g e;subst e;cases b<;>simp[BX.kind]at h;simp_all
section
variable{Γ:Ctx}{D:Dom}{ow:Own}{μ:Nat->Nat}{st:List BX}{w:World}
theorem ab8{P:Program}{T:Option TypeId}{s z:SV}{v:Value}(h:SRep P D w ow μ st s v)(m:canon P T s=some z):a6f P D w z v:=by
 intro I J st';unfold canon at m;split at m
 ·simp only[Aj]at m;subst m;cases h;exact .bool
 ·simp only[Aj]at m;subst m;cases h;exact .int
 ·simp only[Aj]at m;subst m;cases h;exact .str
 ·simp only[Aj]at m;subst m;cases h with|slice h=>exact .slice h
 ·simp only[Aj]at m;subst m;cases h with|data h1 h2=>exact .data h1 h2
 ·simp only[Aj]at m;subst m;cases h with|map h=>exact .map h
 ·simp only[Aj]at m;subst m;cases h;exact .raw
 ·simp only[Aj]at m;subst m;cases h with|pto h1 h2=>exact .pto h1 h2
 ·simp only[Aj]at m;subst m;cases h with|eif h1 h2=>exact .eif h1 h2
 ·simp only[Aj]at m;subst m;cases h with|acc h=>exact .slice h
 ·simp only[Aj]at m;subst m;cases h with|lit h=>exact .slice h
 ·simp only[Aj]at m;subst m;cases h with|sln h=>exact .slice h
 ·split at m
  ·split at m
   ·simp only[Aj]at m;subst m;cases h;exact .slice (.nil λ_=>rfl)
   ·simp at m
  ·simp at m
 ·rename_i o G;cases t:isOf P o (.agg o G)with
  |false=>grind
  |true=>
   rw[t]at m;simp only[Ad,Aj]at m;subst m;have M:=aa6 h o t;cases h with
   |agg H=>exact .data (aob H) (by grind[Value.cells])
 ·simp at m
structure Emb(ρ:Nat->Option Nat)(γ:Nat->Nat)(ow1:Own)(μ1:Nat->Nat)(st1:List BX)(ow2:Own)(μ2:Nat->Nat)(st2:List BX):Prop where
 obj:∀(j k:Nat)(b:BX),ρ j=some k->st1[j]?=some b->∃b',st2[k]?=some b'/\b'.kind=b.kind/\((∀g,b≠.acc g)->μ2 k=μ1 j)/\((∃g,b=.acc g)->b'=.acc (γ j))/\(∀E g xs,b=.arr E g xs->b'=.arr E (γ j) xs)
 own:∀(j k b:Nat),ρ j=some k->ow1 b=some j->ow2 b=some k
theorem aiq{st:List BX}{t:Nat->Option Nat}{o:Nat->Nat}:∀{l m:List SV},renL st t o l=some m->m.length=l.length/\∀(i:Nat)(x:SV),m[i]?=some x->∃y,l[i]?=some y/\renS st t o y=some x:=by
 intro l;induction l with
 |nil=>grind[renL,Option.some.injEq]
 |cons s r z=>grind[renL]
theorem ae1{P:Program}{ρ:Nat->Option Nat}{γ:Nat->Nat}{aa:Own}{ad:Nat->Nat}{ab:List BX}(m:Emb ρ γ ow μ st aa ad ab){s:SV}{v:Value}(h:SRep P D w ow μ st s v):∀{G:SV},renS st ρ γ s=some G->SRep P D w aa ad ab G v:=by
 induction h with
 |undef=>intro G o;simp only[renS,Aj]at o;subst o;exact .undef
 |bool=>intro G o;simp only[renS,Aj]at o;subst o;exact .bool
 |int=>intro G o;simp only[renS,Aj]at o;subst o;exact .int
 |str=>intro G o;simp only[renS,Aj]at o;subst o;exact .str
 |slice h=>intro G o;simp only[renS,Aj]at o;subst o;exact .slice h
 |data X h=>intro G o;simp only[renS,Aj]at o;subst o;exact .data X h
 |agg X Z O hv _ ih=>
  intro G o;simp only[renS]at o;split at o
  ·rename_i gs hg;simp only[Aj]at o;subst o;obtain⟨z,I⟩:=aiq hg;refine .agg X Z O (by grind) (λi x f hx hf=>?_);grind
  ·cases o
 |map h=>intro G o;simp only[renS,Aj]at o;subst o;exact .map h
 |nils=>intro G o;simp only[renS,Aj]at o;subst o;exact .nils
 |lit h=>intro G o;simp only[renS,Aj]at o;subst o;exact .slice h
 |sln h=>intro G o;simp only[renS,Aj]at o;subst o;exact .slice h
 |mitr H=>grind[renS]
 |@acc k g g0 E xs v h H hg O=>
  intro G o;simp only[renS,Aj]at o;split at o
  ·rename_i J t;cases V:aor st k g with
   |false=>rw[V]at o;simp only[Af]at o;subst o;exact .slice h
   |true=>
    rw[V]at o;simp only[Ad]at o;subst o;obtain⟨U,z,I,M,h4,_⟩:=m.obj k J _ t H;rw[h4 ⟨_,rfl⟩]at z;refine .acc h z (Nat.le_refl _) (λ_=>?_);have ae:g=g0:=by grind[aor,Nat.eq_of_beq_eq_true]
    rcases O ae with O|⟨b,off,cap,W,q1,q2,q3,q4,q5,q6,q7⟩
    ·exact Or.inl O
    ·exact Or.inr ⟨b,off,cap,W,q1,q2,q3,q4,q5,m.own k J b t q6,q7⟩
  ·subst o;exact .slice h
 |ref H hp=>
  intro G o;simp only[renS]at o;split at o
  ·rename_i J t;simp only[Aj]at o;subst o;obtain⟨U,z,I,M,_⟩:=m.obj _ J _ t H;obtain⟨s1,rfl⟩:=aoh I;rw[<-M (by simp)];exact .ref z hp
  ·cases o
 |mref H=>
  intro G o;simp only[renS]at o;split at o
  ·rename_i J t;simp only[Aj]at o;subst o;obtain⟨U,z,I,M,_⟩:=m.obj _ J _ t H;obtain⟨s1,rfl⟩:=a1q I;rw[<-M (by simp)];exact .mref z
  ·cases o
 |iref H=>grind[renS]
 |bref H=>
  intro G o;simp only[renS]at o;split at o
  ·rename_i J t;simp only[Aj]at o;subst o;obtain⟨U,z,I,M,_⟩:=m.obj _ J _ t H;obtain⟨s1,rfl⟩:=a1p I;rw[<-M (by simp)];exact .bref z
  ·cases o
 |nx z I=>grind[renS]
 |eif z I=>intro G o;simp only[renS,Aj]at o;subst o;exact .eif z I
 |ifc _ ih=>
  intro G o;simp only[renS]at o;split at o
  ·rename_i x hx;simp only[Aj]at o;subst o;exact .ifc (ih hx)
  ·cases o
 |pto z I=>intro G o;simp only[renS,Aj]at o;subst o;exact .pto z I
 |fn ah ai _ ih=>
  intro G o;simp only[renS]at o;split at o
  ·rename_i gs hg;simp only[Aj]at o;subst o;obtain⟨z,I⟩:=aiq hg;refine .fn ah (by grind) (λi x u hx hu=>?_);grind
  ·cases o
 |tup ai _ ih=>grind[renS]
 |raw=>intro G o;simp only[renS,Aj]at o;subst o;exact .raw
 |eref H X hi=>
  intro G o;simp only[renS]at o;split at o
  ·rename_i J t;simp only[Aj]at o;subst o;obtain⟨U,z,I,M,_⟩:=m.obj _ J _ t H;obtain⟨s1,rfl⟩:=aoh I;rw[<-M (by simp)];exact .eref z X hi
  ·cases o
 |avwOld=>grind[renS]
 |avw=>grind[renS]
 |lits=>grind[renS]
 |asl H X hi hc=>
  intro G o;simp only[renS]at o;split at o
  ·rename_i J t;simp only[Aj]at o;subst o;obtain⟨U,z,I,M,_⟩:=m.obj _ J _ t H;obtain⟨s1,rfl⟩:=aoh I;rw[<-M (by simp)];exact .asl z X hi hc
  ·cases o
 |@arrOld k g g0 E E' xs v H af O=>grind[renS,afu,Nat.beq,Nat.eq_of_beq_eq_true]
 |@arrNil k g E a H=>
  intro G o;simp only[renS]at o;split at o
  ·rename_i J t;cases V:afu st k g with
   |false=>grind
   |true=>rw[V]at o;simp only[Ad,Aj]at o;subst o;obtain⟨U,z,I,M,_,Y⟩:=m.obj k J _ t H;rw[Y _ _ _ rfl]at z;exact .arrNil z
  ·cases o
 |@arr k g cap E xs W H Z ag hc O aj=>
  intro G o;simp only[renS]at o;split at o
  ·rename_i J t;cases V:afu st k g with
   |false=>grind
   |true=>rw[V]at o;simp only[Ad,Aj]at o;subst o;obtain⟨U,z,I,M,_,Y⟩:=m.obj k J _ t H;rw[Y _ _ _ rfl]at z;have e:=M (by simp);rw[<-e];exact .arr z Z ag (by simp[*]) (by rw[e];exact m.own k J _ t O) aj
  ·cases o
 |@arefOld k g g0 i E E' T path xs v H af O=>grind[renS,afu,Nat.beq,Nat.eq_of_beq_eq_true]
 |@aref k g i off E T path xs W H Z hp hc O=>
  intro G o;simp only[renS]at o;split at o
  ·rename_i J t;cases V:afu st k g with
   |false=>grind
   |true=>rw[V]at o;simp only[Ad,Aj]at o;subst o;obtain⟨U,z,I,M,_,Y⟩:=m.obj k J _ t H;rw[Y _ _ _ rfl]at z;have e:=M (by simp);rw[<-e];exact .aref z Z hp (by rw[e];exact hc) (by rw[e];exact m.own k J _ t O)
  ·cases o
theorem axy{P:Program}{V:Nat->Option Nat}{U:Nat->Nat}{z:Own}{H:Nat->Nat}{G:List BX}(m:Emb V U ow μ st z H G){rs o:List SV}{v:Value}(h:SRep P D w ow μ st (adp rs) v)(Y:renL st V U rs=some o):SRep P D w z H G (adp o) v:=by
 obtain⟨W,X⟩:=aiq Y;by_cases t:rs.length=1
 ·match rs,t,o,W with
  |[s],_,[s'],_=>obtain⟨y,O,I⟩:=X 0 s' rfl;simp at O;subst O;exact ae1 m h I
 ·have J:∀l:List SV,l.length≠1->adp l=.tup l:=by
   intro l t;match l,t with
   |[],_=>rfl
   |[x],t=>grind
   |x::y::r,_=>rfl
  rw[J rs t]at h;rw[J o (by omega)];cases h with
  |tup Z M=>refine .tup (by grind) (λi x u hx hu=>?_);grind[ae1]
theorem a5q{P:Program}{U:Nat->Option Nat}{O:Nat->Nat}{z:Own}{H:Nat->Nat}{G:List BX}(m:Emb U O ow μ st z H G){rs o:List SV}{v:Value}(h:ah3 P D w ow μ st rs v)(t:renL st U O rs=some o):ah3 P D w z H G o v/\ah9 o v=ah9 rs v:=by
 rcases ab7 h with⟨s,rfl,J,V⟩|⟨W,J,V⟩
 ·simp only[renL,renS]at t;split at t
  ·rename_i x q I M;simp only[Aj]at M t;subst M;subst t;split at I
   ·rename_i y X;simp only[Aj]at I;subst I;exact⟨ae1 m J X,rfl⟩
   ·cases I
  ·cases t
 all_goals grind[agw,axy]
theorem acv{z:Nat->Option Nat}{t:Nat->Nat}{k:Nat}{b m:BX}(h:aip st z t k b=some m):m.kind=b.kind/\((∃g,b=.acc g)->m=.acc (t k))/\(∀E g xs,b=.arr E g xs->m=.arr E (t k) xs):=by
 unfold aip at h;split at h
 ·split at h
  ·cases h;exact⟨rfl,(λ⟨g,o⟩=>by cases o),λE g xs e=>by cases e⟩
  ·cases h
 ·cases h;exact⟨rfl,λ_=>rfl,λE g xs e=>by cases e⟩
 ·cases h;exact⟨rfl,(λ⟨g,o⟩=>by cases o),λE g xs e=>by cases e;rfl⟩
 all_goals simp_all
theorem ObjIn.ren{P:Program}{ρ:Nat->Option Nat}{γ:Nat->Nat}{H:Own}{I:Nat->Nat}{W:List BX}(m:Emb ρ γ ow μ st H I W){j k:Nat}{b b':BX}(hj:st[j]?=some b)(J:ρ j=some k)(h:ObjIn P D w ow μ st j b)(o:aip st ρ γ j b=some b'):ObjIn P D w H I W k b':=by
 obtain⟨b2,_,_,t,_⟩:=m.obj j k b J hj;cases b with
 |box T s=>
  simp only[aip]at o;split at o
  ·rename_i x hx;cases o;have e:=t (by simp);obtain⟨z,T',q1,M,U,V,O⟩:=h;exact⟨z,T',by simp[*],M,by rw[e];exact m.own j k _ J U,by simp[*],ae1 m O hx⟩
  ·cases o
 |map K E es=>simp only[aip,Aj]at o;subst o;have e:=t (by simp);obtain⟨ents,clock,kc,vc,q1,M,U,V⟩:=h;exact⟨ents,clock,kc,vc,by simp[*],by rw[e];exact m.own j k _ J M,by simp[*],V⟩
 |acc g=>simp only[aip,Aj]at o;subst o;trivial
 |hole=>simp only[aip,Aj]at o;subst o;trivial
 |iter s p=>simp[aip]at o
 |mit K E es=>simp[aip]at o
 |bld T bs=>
  simp only[aip,Aj]at o;subst o;have e:=t (by simp);obtain⟨p,v,q1,M,U,V,O⟩:=h;refine⟨p,v,by simp[*],by simp[*],by rw[e];exact m.own j k _ J U,by simp[*],?_⟩;rcases O with O|⟨g,cap,G,fz,a1,a2,a4,a5,a6,a7,a8,a9,X,Y⟩
  ·simp[*]
  ·exact Or.inr ⟨g,cap,G,fz,a1,a2,a4,a5,a6,a7,a8,by simp[*],m.own j k _ J X,Y⟩
 |arr E g xs=>
  simp only[aip,Aj]at o;subst o;have e:=t (by simp);have Z:a03 P D w ow μ j E xs:=h;show a03 P D w H I k E xs;rcases Z with Z|⟨G,q1,M,U,V,O⟩
  ·exact Or.inl Z
  ·exact Or.inr ⟨G,by simp[*],by rw[e];exact m.own j k _ J M,by simp[*],V,O⟩
theorem ah4:∀(l ks:List Nat),ks.Nodup->(af1 ks l).Nodup:=by
 intro l;induction l with
 |nil=>intro ks h;exact h
 |cons k r m=>
  intro ks h;unfold af1;refine m _ ?_;cases o:ks.any (Nat.beq k)with
  |true=>simp[*]
  |false=>simp only[Af];grind[List.nodup_append,Nat.beq,List.any_eq_true,Nat.beq_refl]
theorem ag0:∀(l ks:List Nat),∃r,af1 ks l=ks++r:=by
 intro l;induction l with
 |nil=>simp_all[af1]
 |cons k r m=>intro ks;unfold af1;obtain⟨q,o⟩:=m (bif ks.any (Nat.beq k)then ks else ks++[k]);grind
theorem aqj:∀(n:Nat)(ks:List Nat),ks.Nodup->(az8 st n ks).Nodup:=by
 intro n;induction n with
 |zero=>intro ks h;exact h
 |succ n m=>intro ks h;exact m _ (ah4 _ _ h)
theorem anx:∀(n:Nat)(ks:List Nat),∃r,az8 st n ks=ks++r:=by
 intro n;induction n with
 |zero=>simp_all[az8]
 |succ n m=>intro ks;obtain⟨r,t⟩:=m (af1 ks (ks.flatMap (a9j st)));obtain⟨q,o⟩:=ag0 (ks.flatMap (a9j st)) ks;grind[az8,List.append_assoc]
theorem ad2(st:List BX)(args:List SV):(aat st args).Nodup:=aqj _ _ (ah4 _ _ (by simp))
theorem anl(own:Bool)(st:List BX)(np:Nat)(m:List SV):(agc own st np m).Nodup:=aqj _ _ (ah4 _ _ List.nodup_range)
theorem ak8(own:Bool)(st:List BX)(np:Nat)(m:List SV):∃r,agc own st np m=List.range np++r:=by obtain⟨r,t⟩:=anx (st:=st) 4 (af1 (List.range np) (agk false st m++(bif own then atc st m else[])));obtain⟨q,o⟩:=ag0 (agk false st m++(bif own then atc st m else[])) (List.range np);grind[agc,List.append_assoc]
theorem a0f{st:List BX}{args:List SV}(h:aat st args=[]):agk false st args=[]:=by
 obtain⟨r,t⟩:=anx (st:=st) 4 (af1 [] (agk false st args));unfold aat at h;rw[t]at h;have m:=(List.append_eq_nil_iff.1 h).1;cases o:agk false st args with
 |nil=>rfl
 |cons k r=>rw[o]at m;unfold af1 at m;obtain⟨q,z⟩:=ag0 r (bif ([]:List Nat).any (Nat.beq k)then[]else[]++[k]);grind
theorem aub{k:Nat}:∀{ks:List Nat},ks.any (Nat.beq k)=true->ks[idx k ks]?=some k:=by
 intro ks;induction ks with
 |nil=>grind
 |cons x r m=>grind[idx,Nat.beq,Nat.eq_of_beq_eq_true]
theorem amo{ks:List Nat}{k j:Nat}(h:acp ks k=some j):ks[j]?=some k:=by
 unfold acp at h;cases m:ks.any (Nat.beq k)with
 |false=>grind
 |true=>rw[m]at h;simp only[Ad,Aj]at h;grind[aub]
theorem aqb{ks:List Nat}(t:ks.Nodup){i j k:Nat}(m:ks[i]?=some k)(o:ks[j]?=some k):i=j:=by grind[List.getElem?_eq_some_iff,Nat.lt_trichotomy,absurd,List.pairwise_iff_getElem]
theorem a1m{ks:List Nat}(o:ks.Nodup){k j:Nat}(h:ks[j]?=some k):acp ks k=some j:=by have m:ks.any (Nat.beq k)=true:=List.any_eq_true.2 ⟨k,List.mem_of_getElem? h,Bf k⟩;unfold acp;rw[m];simp only[Ad,Aj];grind[aqb,aub]
theorem ajm{t:Nat->Option Nat}{o:Nat->Nat}:∀(ks:List Nat)(sub:List BX),ahz st t o ks=some sub->sub.length=ks.length/\∀(j k:Nat),ks[j]?=some k->∃b m,st[k]?=some b/\aip st t o k b=some m/\sub[j]?=some m:=by
 intro ks;induction ks with
 |nil=>grind[ahz]
 |cons x r z=>grind[ahz]
def ago(ow:Own)(ks:List Nat)(b:Nat):Option Nat:=match ow b with|some k=>acp ks k|none=>none
theorem ae0{ks:List Nat}{b j:Nat}(h:ago ow ks b=some j):∃k,ks[j]?=some k/\ow b=some k:=by grind[ago,amo]
theorem auy{ks:List Nat}(t:ks.Nodup){j k b:Nat}(o:ks[j]?=some k)(m:ow b=some k):ago ow ks b=some j:=by grind[ago,a1m]
theorem amw{ks:List Nat}{b:Nat}(h:∀k,k∈ks->ow b≠some k):ago ow ks b=none:=by
 cases m:ago ow ks b with
 |none=>rfl
 |some j=>grind[ae0,absurd,List.mem_of_getElem?]
theorem Emb.sub{ks:List Nat}{sub:List BX}{o:Nat->Nat}(t:ks.Nodup)(z:ahz st (acp ks) o ks=some sub):Emb (acp ks) o ow μ st (ago ow ks) (λj=>μ (ks.getD j 0)) sub:=by obtain⟨H,I⟩:=ajm ks sub z;refine⟨λk j b m J=>?_,λk j b m G=>auy t (amo m) G⟩;have M:=amo m;grind[acv,List.getD]
theorem Objs.sub{P:Program}(h:Objs P D ow μ st w){ks:List Nat}{sub:List BX}{γ:Nat->Nat}(W:ks.Nodup)(X:ahz st (acp ks) γ ks=some sub):Objs P D (ago ow ks) (λj=>μ (ks.getD j 0)) sub w:=by
 have m:=Emb.sub (ow:=ow) (μ:=μ) W X;obtain⟨h1,V⟩:=ajm ks sub X;refine⟨λj b' Z=>?_,λb j J=>?_,h.dlt,λb j x J hx z o d=>?_⟩
 ·have M:j<ks.length:=by grind
  have G:ks[j]?=some ks[j]:=Ao M;obtain⟨U,Y,I,O,H⟩:=V j _ G;rw[Z]at H;cases H;exact(h.obj _ _ I).ren m I (a1m W G) O
 ·obtain⟨k,G,t⟩:=ae0 J;exact⟨(h.owlt _ _ t).1,by grind⟩
 ·obtain⟨k,G,t⟩:=ae0 J;obtain⟨U,Y,I,O,H⟩:=V j k G;rw[hx]at H;cases H;exact h.lone b k U t I (agj (acv O).1.symm z) o d
theorem WRel.objs(m:WRel Γ D ow μ st w):Objs Γ.P D ow μ st w:=by
 refine⟨λk b o=>?_,m.owlt,m.dlt,m.lone⟩;cases b with
 |box T s=>exact m.box k T s o
 |map K E es=>exact m.map k K E es o
 |acc g=>trivial
 |hole=>trivial
 |_=>exact m.obj k _ o
end
end Go.Ab
namespace Go.Ab
open Go
section
variable{Γ:Ctx}{D:Dom}{ow:Own}{μ:Nat->Nat}{st:List BX}{w:World}
theorem WRel.letGo(m:WRel Γ D ow μ st w)(t:Γ.np=0)(fz:List Nat):WRel Γ (adx D ow μ st fz) (λ_=>none) μ [] w:=by
 refine⟨λk T s h=>(by simp at h),λk K E es h=>(by simp at h),λk b h=>(by simp at h),λb k h=>(by cases h),λb o d=>?_,m.os,m.tape,m.output,m.hs,m.old,λb o d=>Or.inl (m.dom0 b o d),λb o d=>?_,λb k h=>(by cases h),(by rw[t];exact Nat.zero_le _),λk h=>(by omega),λk h=>(by omega),λb k x h=>(by cases h),m.keep0,λk h=>(by omega)⟩
 ·rcases ad7 d with d|⟨k,_,h,_⟩
  ·exact m.dlt b o d
  ·exact(m.owlt b k h).1
 ·rcases ad7 d with d|⟨k,_,h,_⟩
  ·exact m.domN b o d
  ·by_cases z:b<Γ.B
   ·exact Or.inr (Or.inr (by rw[m.owN b k h z];simp))
   ·exact Or.inr (Or.inl (by omega))
theorem a4p{P:Program}{args o:List SV}{m:Array Value}(Y:WRel Γ D ow μ st w)(Z:P=Γ.P)(t:∀(i:Nat)(s:SV)(v:Value),args[i]?=some s->m[i]?=some v->SRep Γ.P D w ow μ st s v)(V:renL st (λ_=>none) (λ_=>0) (frzL st args)=some o):
 o.length=args.length/\∀(i:Nat)(s:SV)(v:Value),o[i]?=some s->m[i]?=some v->SRep Γ.P (adx D ow μ st (av4 args)) w (λ_=>none) μ [] s v:=by
 obtain⟨M,O⟩:=aiq V
 have J:Emb (λ_=>none) (λ_=>0) ow μ st (λ_=>none) μ []:=⟨λ_ _ _ h=>(by simp at h),λ_ _ _ h=>(by simp at h)⟩
 refine⟨by rw[M,apl],λi s v W X=>?_⟩
 obtain⟨y,H,G⟩:=O i s W
 rw[a1l]at H
 obtain⟨z,I,rfl⟩:=Option.map_eq_some_iff.1 H
 exact ae1 J (ai7 (fz:=av4 args) Y (t i z v I X) λk U=>av5 I U) G
end
end Go.Ab
