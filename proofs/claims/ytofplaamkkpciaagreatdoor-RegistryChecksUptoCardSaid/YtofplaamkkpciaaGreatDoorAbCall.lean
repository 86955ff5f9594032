/- Calls by contract. -/
import Derived.Test.YtofplaamkkpciaaGreatDoorAbStep
set_option linter.unusedVariables false
set_option linter.unusedSimpArgs false
set_option linter.unnecessarySimpa false
namespace Go.Ab
open Go
def a2b(P:Program)(D:Dom)(w:World)(s:SV)(v:Value):Prop:=∀(ow:Own)(μ:Nat->Nat)(st:List BX),SRep P D w ow μ st s v
def ObjIn(P:Program)(D:Dom)(w:World)(ow:Own)(μ:Nat->Nat)(st:List BX)(k:Nat):BX->Prop
 |.box T s=>BoxRep P D w ow μ st k T s
 |.map K E es=>OMapRep P D w ow μ k K E es
 |.acc _=>True
 |.iter s p=>ObjRep P D w ow μ k (.iter s p)
 |.bld T bs=>ObjRep P D w ow μ k (.bld T bs)
 |.arr E g xs=>ObjRep P D w ow μ k (.arr E g xs)
 |.mit K E c es=>ObjRep P D w ow μ k (.mit K E c es)
 |.hole=>True
structure Objs(P:Program)(D:Dom)(ow:Own)(μ:Nat->Nat)(st:List BX)(w:World):Prop where
 obj:∀(k:Nat)(b:BX),st[k]?=some b->ObjIn P D w ow μ st k b
 owlt:∀b k,ow b=some k->b<w.heap.size/\k<st.length
 dlt:∀b o,D b o->b<w.heap.size
 lone:∀(b k:Nat)(x:BX),ow b=some k->st[k]?=some x->(∀g,x≠.acc g)->∀o,¬D b o
structure Pre(P:Program)(D:Dom)(ow:Own)(μ:Nat->Nat)(st:List BX)(w:World)(as:List SV)(vals:Array Value):Prop where
 size:vals.size=as.length
 arg:∀(i:Nat)(s:SV)(v:Value),as[i]?=some s->vals[i]?=some v->SRep P D w ow μ st s v
 objs:Objs P D ow μ st w
 tabs:Tabs P ow w
theorem Pre.dlt{P:Program}{D:Dom}{ow:Own}{μ:Nat->Nat}{st:List BX}{w:World}{z:List SV}{m:Array Value}(t:Pre P D ow μ st w z m):∀b o,D b o->b<w.heap.size:=t.objs.dlt
def aig(m:List SV)(v:Value):Ending:=
 match m with
 |[.pan _]=>.panicked [{ v,recovered:=false }]
 |_=>.returned v
def aia(P:Program)(D:Dom)(w:World)(ow:Own)(μ:Nat->Nat)(st:List BX)(m:List SV)(v:Value):Prop:=
 match m with
 |[.pan s]=>SRep P D w ow μ st s v
 |m=>SRep P D w ow μ st (adk m) v
theorem aiz{P:Program}{D:Dom}{w:World}{ow:Own}{μ:Nat->Nat}{st:List BX}{m:List SV}{v:Value}(h:SRep P D w ow μ st (adk m) v):aia P D w ow μ st m v/\aig m v=.returned v:=by
 unfold aia aig;split
 ·cases h
 grind
theorem acd{P:Program}{D:Dom}{w:World}{ow:Own}{μ:Nat->Nat}{st:List BX}{m:List SV}{v:Value}(h:aia P D w ow μ st m v):
 (∃s,m=[.pan s]/\SRep P D w ow μ st s v/\aig m v=.panicked [{ v,recovered:=false }])\/((∀s,m≠[.pan s])/\SRep P D w ow μ st (adk m) v/\aig m v=.returned v):=by
 unfold aia at h
 split at h
 ·rename_i s;exact Or.inl ⟨s,rfl,h,rfl⟩
 ·rename_i o;refine Or.inr ⟨λs e=>o s e,h,?_⟩;unfold aig;grind
structure Rest(P:Program)(D:Dom)(w:World)(ow:Own)(μ:Nat->Nat)(st:List BX)(rs:List SV)(st':List BX)(v:Value)(D':Dom)(w':World)(ow':Own)(μ':Nat->Nat):Prop where
 objs:Objs P D' ow' μ' st' w'
 res:aia P D' w' ow' μ' st' rs v
 own:∀b k,ow' b=some k->b<w.heap.size->ow b=some k
 keep:∀(k:Nat)(b:BX),st[k]?=some b->∃b',st'[k]?=some b'/\b'.kind=b.kind/\((∀g,b≠.acc g)->(∀E g xs,b≠.arr E g xs)->μ' k=μ k)
 same:∀(k:Nat)(E:TypeId)(g:Nat)(xs ys:List PV),st[k]?=some (.arr E g xs)->st'[k]?=some (.arr E 0 ys)->ys.length=xs.length/\ArrKeep w ow μ w' ow' μ' k E
structure Post(P:Program)(D:Dom)(w:World)(ow:Own)(μ:Nat->Nat)(st:List BX)(rs:List SV)(st':List BX)(v:Value)(D':Dom)(w':World):Prop where
 dom:∀b o,D b o->D' b o
 new:∀b o,D' b o->D b o\/w.heap.size<=b\/ow b≠none
 rest:∃(ow':Own)(μ':Nat->Nat),Rest P D w ow μ st rs st' v D' w' ow' μ'
 os:w'.os=w.os
 tape:w'.tape=w.tape
 output:w'.output=w.output
 size:w.heap.size<=w'.heap.size
 old:∀b,b<w.heap.size->ow b=none->w'.heap[b]?=w.heap[b]?
 keeps:Keeps D w w'
def ak3(P:Program)(f:FuncId):Prop:=∀(args:Array Value)(w:World),(callFunc f args).run P w=.ok (.enter f args) w
def Meets(P:Program)(f:FuncId)(t:List SV)(st:List BX)(o:List SV)(st':List BX):Prop:=
 ak3 P f/\∀(D:Dom)(ow:Own)(μ:Nat->Nat)(w:World)(m:Array Value),Pre P D ow μ st w t m->
  Calls P f m w λe w'=>∃v D',e=aig o v/\Post P D w ow μ st o st' v D' w'
theorem aa1 {P:Program}{f:FuncId}{fn:Func} (z:P.funcs[f]?=some fn) (G:(fn.name== "runtime.NumGoroutine")=false) (t:fn.body.isNone=false):ak3 P f:=by
 intro args w;have o:fn.name≠ "runtime.NumGoroutine":=by simp_all
 have m:fn.body≠none:=λe=>by grind
 simp_all[callFunc]
theorem aox{b:BX}{T:TypeId}{s:SV}(h:b.kind=(BX.box T s).kind):∃m,b=.box T m:=by cases b<;>simp[BX.kind]at h;simp_all
theorem a3c{b:BX}{T:TypeId}{s:Bn}(h:b.kind=(BX.bld T s).kind):∃m,b=.bld T m:=by cases b<;>simp[BX.kind]at h;simp_all
theorem a3d{b:BX}{K E:TypeId}{s:List (PV×PV)}(h:b.kind=(BX.map K E s).kind):∃m,b=.map K E m:=by cases b<;>simp[BX.kind]at h;simp_all
theorem bal{b:BX}{s:Bn}{p:Nat}(h:b.kind=(BX.iter s p).kind):∃m p',b=.iter m p':=by cases b<;>simp[BX.kind]at h;grind
theorem bes{b:BX}{g:Nat}(h:b.kind=(BX.acc g).kind):∃m,b=.acc m:=by cases b<;>simp[BX.kind]at h;grind
theorem axr{b m:BX}(h:m.kind=b.kind)(t:∀E g xs,b≠.arr E g xs):∀E g xs,m≠.arr E g xs:=by intro E g xs e;subst e;obtain⟨o,ys,rfl⟩:=ajk h.symm;grind
theorem agn{b m:BX}(h:m.kind=b.kind)(o:∀g,b≠.acc g):∀g,m≠.acc g:=by intro g e;subst e;cases b<;>simp[BX.kind]at h;simp_all
section
variable{Γ:Ctx}{D:Dom}{ow:Own}{μ:Nat->Nat}{st:List BX}{w:World}
theorem ace{P:Program}{T:Option TypeId}{s z:SV}{v:Value}(h:SRep P D w ow μ st s v)(m:canon P T s=some z):a2b P D w z v:=by
 intro I J st';unfold canon at m;split at m
 ·simp only[Aj]at m;subst m;cases h;exact .bool
 ·simp only[Aj]at m;subst m;cases h;exact .int
 ·simp only[Aj]at m;subst m;cases h;exact .str
 ·simp only[Aj]at m;subst m;cases h with|slice h=>exact .slice h
 ·simp only[Aj]at m;subst m;cases h with|data h1 h2=>exact .data h1 h2
 ·simp only[Aj]at m;subst m;cases h with|map h=>exact .map h
 ·simp only[Aj]at m;subst m;cases h;exact .raw
 ·simp only[Aj]at m;subst m;cases h with|pto h1 h2=>exact .pto h1 h2
 ·simp only[Aj]at m;subst m;cases h with|eif h1 h2=>exact .eif h1 h2
 ·simp only[Aj]at m;subst m;cases h with|acc h=>exact .slice h
 ·simp only[Aj]at m;subst m;cases h with|lit h=>exact .slice h
 ·simp only[Aj]at m;subst m;cases h with|sln h=>exact .slice h
 ·split at m
  ·split at m
   ·simp only[Aj]at m;subst m;cases h;exact .slice (.nil λ_=>rfl)
   ·simp at m
  ·simp at m
 ·rename_i o G;cases t:isOf P o (.agg o G)with
  |false=>grind
  |true=>
   rw[t]at m;simp only[Ad,Aj]at m;subst m;have M:=aa9 h o t;cases h with
   |agg H=>exact .data (aor H) (by grind[Value.cells])
 ·simp at m
structure Emb(ρ:Nat->Option Nat)(γ:Nat->Nat)(ow1:Own)(μ1:Nat->Nat)(st1:List BX)(ow2:Own)(μ2:Nat->Nat)(st2:List BX):Prop where
 obj:∀(j k:Nat)(b:BX),ρ j=some k->st1[j]?=some b->∃b',st2[k]?=some b'/\b'.kind=b.kind/\((∀g,b≠.acc g)->μ2 k=μ1 j)/\((∃g,b=.acc g)->b'=.acc (γ j))/\(∀E g xs,b=.arr E g xs->b'=.arr E (γ j) xs)
 own:∀(j k b:Nat),ρ j=some k->ow1 b=some j->ow2 b=some k
theorem aiy{st:List BX}{t:Nat->Option Nat}{o:Nat->Nat}:∀{l m:List SV},renL st t o l=some m->m.length=l.length/\∀(i:Nat)(x:SV),m[i]?=some x->∃y,l[i]?=some y/\renS st t o y=some x:=by
 intro l;induction l with
 |nil=>grind[renL,Option.some.injEq]
 |cons s r z=>grind[renL]
theorem ae7{P:Program}{ρ:Nat->Option Nat}{γ:Nat->Nat}{aa:Own}{ad:Nat->Nat}{ab:List BX}(m:Emb ρ γ ow μ st aa ad ab){s:SV}{v:Value}(h:SRep P D w ow μ st s v):∀{G:SV},renS st ρ γ s=some G->SRep P D w aa ad ab G v:=by
 induction h with
 |undef=>intro G o;simp only[renS,Aj]at o;subst o;exact .undef
 |bool=>intro G o;simp only[renS,Aj]at o;subst o;exact .bool
 |int=>intro G o;simp only[renS,Aj]at o;subst o;exact .int
 |str=>intro G o;simp only[renS,Aj]at o;subst o;exact .str
 |slice h=>intro G o;simp only[renS,Aj]at o;subst o;exact .slice h
 |data X h=>intro G o;simp only[renS,Aj]at o;subst o;exact .data X h
 |agg X Z O hv _ ih=>
  intro G o;simp only[renS]at o;split at o
  ·rename_i gs hg;simp only[Aj]at o;subst o;obtain⟨z,I⟩:=aiy hg;refine .agg X Z O (by grind) (λi x f hx hf=>?_);grind
  ·cases o
 |map h=>intro G o;simp only[renS,Aj]at o;subst o;exact .map h
 |nils=>intro G o;simp only[renS,Aj]at o;subst o;exact .nils
 |lit h=>intro G o;simp only[renS,Aj]at o;subst o;exact .slice h
 |sln h=>intro G o;simp only[renS,Aj]at o;subst o;exact .slice h
 |mitr H=>grind[renS]
 |@acc k g g0 E xs v h H hg O=>
  intro G o;simp only[renS,Aj]at o;split at o
  ·rename_i J t;cases V:apb st k g with
   |false=>rw[V]at o;simp only[Af]at o;subst o;exact .slice h
   |true=>
    rw[V]at o;simp only[Ad]at o;subst o;obtain⟨U,z,I,M,h4,_⟩:=m.obj k J _ t H;rw[h4 ⟨_,rfl⟩]at z;refine .acc h z (Nat.le_refl _) (λ_=>?_);have ae:g=g0:=by grind[apb,Nat.eq_of_beq_eq_true]
    rcases O ae with O|⟨b,off,cap,W,q1,q2,q3,q4,q5,q6,q7⟩
    ·exact Or.inl O
    ·exact Or.inr ⟨b,off,cap,W,q1,q2,q3,q4,q5,m.own k J b t q6,q7⟩
  ·subst o;exact .slice h
 |ref H hp=>
  intro G o;simp only[renS]at o;split at o
  ·rename_i J t;simp only[Aj]at o;subst o;obtain⟨U,z,I,M,_⟩:=m.obj _ J _ t H;obtain⟨s1,rfl⟩:=aox I;rw[<-M (by simp)];exact .ref z hp
  ·cases o
 |mref H=>
  intro G o;simp only[renS]at o;split at o
  ·rename_i J t;simp only[Aj]at o;subst o;obtain⟨U,z,I,M,_⟩:=m.obj _ J _ t H;obtain⟨s1,rfl⟩:=a3d I;rw[<-M (by simp)];exact .mref z
  ·cases o
 |iref H=>grind[renS]
 |bref H=>
  intro G o;simp only[renS]at o;split at o
  ·rename_i J t;simp only[Aj]at o;subst o;obtain⟨U,z,I,M,_⟩:=m.obj _ J _ t H;obtain⟨s1,rfl⟩:=a3c I;rw[<-M (by simp)];exact .bref z
  ·cases o
 |nx z I=>grind[renS]
 |eif z I=>intro G o;simp only[renS,Aj]at o;subst o;exact .eif z I
 |ifc _ ih=>
  intro G o;simp only[renS]at o;split at o
  ·rename_i x hx;simp only[Aj]at o;subst o;exact .ifc (ih hx)
  ·cases o
 |pto z I=>intro G o;simp only[renS,Aj]at o;subst o;exact .pto z I
 |fn ah ai _ ih=>
  intro G o;simp only[renS]at o;split at o
  ·rename_i gs hg;simp only[Aj]at o;subst o;obtain⟨z,I⟩:=aiy hg;refine .fn ah (by grind) (λi x u hx hu=>?_);grind
  ·cases o
 |tup ai _ ih=>grind[renS]
 |raw=>intro G o;simp only[renS,Aj]at o;subst o;exact .raw
 |eref H X hi=>
  intro G o;simp only[renS]at o;split at o
  ·rename_i J t;simp only[Aj]at o;subst o;obtain⟨U,z,I,M,_⟩:=m.obj _ J _ t H;obtain⟨s1,rfl⟩:=aox I;rw[<-M (by simp)];exact .eref z X hi
  ·cases o
 |avwOld=>grind[renS]
 |avw=>grind[renS]
 |lits=>grind[renS]
 |asl H X hi hc=>
  intro G o;simp only[renS]at o;split at o
  ·rename_i J t;simp only[Aj]at o;subst o;obtain⟨U,z,I,M,_⟩:=m.obj _ J _ t H;obtain⟨s1,rfl⟩:=aox I;rw[<-M (by simp)];exact .asl z X hi hc
  ·cases o
 |@arrOld k g g0 E E' xs v H af O=>grind[renS,afz,Nat.beq,Nat.eq_of_beq_eq_true]
 |@arrNil k g E a H=>
  intro G o;simp only[renS]at o;split at o
  ·rename_i J t;cases V:afz st k g with
   |false=>grind
   |true=>rw[V]at o;simp only[Ad,Aj]at o;subst o;obtain⟨U,z,I,M,_,Y⟩:=m.obj k J _ t H;rw[Y _ _ _ rfl]at z;exact .arrNil z
  ·cases o
 |@arr k g cap E xs W H Z ag hc O aj=>
  intro G o;simp only[renS]at o;split at o
  ·rename_i J t;cases V:afz st k g with
   |false=>grind
   |true=>rw[V]at o;simp only[Ad,Aj]at o;subst o;obtain⟨U,z,I,M,_,Y⟩:=m.obj k J _ t H;rw[Y _ _ _ rfl]at z;have e:=M (by simp);rw[<-e];exact .arr z Z ag (by simp[*]) (by rw[e];exact m.own k J _ t O) aj
  ·cases o
 |@arefOld k g g0 i E E' T path xs v H af O=>grind[renS,afz,Nat.beq,Nat.eq_of_beq_eq_true]
 |@aref k g i off E T path xs W H Z hp hc O=>
  intro G o;simp only[renS]at o;split at o
  ·rename_i J t;cases V:afz st k g with
   |false=>grind
   |true=>rw[V]at o;simp only[Ad,Aj]at o;subst o;obtain⟨U,z,I,M,_,Y⟩:=m.obj k J _ t H;rw[Y _ _ _ rfl]at z;have e:=M (by simp);rw[<-e];exact .aref z Z hp (by rw[e];exact hc) (by rw[e];exact m.own k J _ t O)
  ·cases o
theorem ayo{P:Program}{W:Nat->Option Nat}{V:Nat->Nat}{z:Own}{I:Nat->Nat}{H:List BX}(m:Emb W V ow μ st z I H){G o:List SV}{v:Value}(h:SRep P D w ow μ st (adk G) v)(Z:renL st W V G=some o):SRep P D w z I H (adk o) v:=by
 obtain⟨X,Y⟩:=aiy Z;by_cases t:G.length=1
 ·match G,t,o,X with
  |[s],_,[s'],_=>obtain⟨y,U,J⟩:=Y 0 s' rfl;simp at U;subst U;exact ae7 m h J
 ·have M:∀l:List SV,l.length≠1->adk l=.tup l:=by
   intro l t;match l,t with
   |[],_=>rfl
   |[x],t=>grind
   |x::y::r,_=>rfl
  rw[M G t]at h;rw[M o (by omega)];cases h with
  |tup hs O=>refine .tup (by grind) (λi x u hx hu=>?_);grind[ae7]
theorem a6v{P:Program}{V:Nat->Option Nat}{U:Nat->Nat}{z:Own}{H:Nat->Nat}{G:List BX}(m:Emb V U ow μ st z H G){J o:List SV}{v:Value}(h:aia P D w ow μ st J v)(t:renL st V U J=some o):aia P D w z H G o v/\aig o v=aig J v:=by
 rcases acd h with⟨s,rfl,M,W⟩|⟨X,M,W⟩
 ·simp only[renL,renS]at t;split at t
  ·rename_i x q I O;simp only[Aj]at O t;subst O;subst t;split at I
   ·rename_i y Y;simp only[Aj]at I;subst I;exact⟨ae7 m M Y,rfl⟩
   ·cases I
  ·cases t
 all_goals grind[aiz,ayo]
theorem acw{z:Nat->Option Nat}{t:Nat->Nat}{k:Nat}{b m:BX}(h:aix st z t k b=some m):m.kind=b.kind/\((∃g,b=.acc g)->m=.acc (t k))/\(∀E g xs,b=.arr E g xs->m=.arr E (t k) xs):=by
 unfold aix at h;split at h
 ·split at h
  ·cases h;exact⟨rfl,(λ⟨g,o⟩=>by cases o),λE g xs e=>by cases e⟩
  ·cases h
 ·cases h;exact⟨rfl,λ_=>rfl,λE g xs e=>by cases e⟩
 ·cases h;exact⟨rfl,(λ⟨g,o⟩=>by cases o),λE g xs e=>by cases e;rfl⟩
 all_goals simp_all
theorem ObjIn.ren{P:Program}{ρ:Nat->Option Nat}{γ:Nat->Nat}{H:Own}{I:Nat->Nat}{W:List BX}(m:Emb ρ γ ow μ st H I W){j k:Nat}{b b':BX}(hj:st[j]?=some b)(J:ρ j=some k)(h:ObjIn P D w ow μ st j b)(o:aix st ρ γ j b=some b'):ObjIn P D w H I W k b':=by
 obtain⟨b2,_,_,t,_⟩:=m.obj j k b J hj;cases b with
 |box T s=>
  simp only[aix]at o;split at o
  ·rename_i x hx;cases o;have e:=t (by simp);obtain⟨z,T',q1,M,U,V,O⟩:=h;exact⟨z,T',by simp[*],M,by rw[e];exact m.own j k _ J U,by simp[*],ae7 m O hx⟩
  ·cases o
 |map K E es=>simp only[aix,Aj]at o;subst o;have e:=t (by simp);obtain⟨ents,clock,kc,vc,q1,M,U,V⟩:=h;exact⟨ents,clock,kc,vc,by simp[*],by rw[e];exact m.own j k _ J M,by simp[*],V⟩
 |acc g=>simp only[aix,Aj]at o;subst o;trivial
 |hole=>simp only[aix,Aj]at o;subst o;trivial
 |iter s p=>simp[aix]at o
 |mit K E es=>simp[aix]at o
 |bld T bs=>
  simp only[aix,Aj]at o;subst o;have e:=t (by simp);obtain⟨p,v,q1,M,U,V,O⟩:=h;refine⟨p,v,by simp[*],by simp[*],by rw[e];exact m.own j k _ J U,by simp[*],?_⟩;rcases O with O|⟨g,cap,G,fz,a1,a2,a4,a5,a6,a7,a8,a9,X,Y⟩
  ·simp[*]
  ·exact Or.inr ⟨g,cap,G,fz,a1,a2,a4,a5,a6,a7,a8,by simp[*],m.own j k _ J X,Y⟩
 |arr E g xs=>
  simp only[aix,Aj]at o;subst o;have e:=t (by simp);have Z:a2a P D w ow μ j E xs:=h;show a2a P D w H I k E xs;rcases Z with Z|⟨G,q1,M,U,V,O⟩
  ·exact Or.inl Z
  ·exact Or.inr ⟨G,by simp[*],by rw[e];exact m.own j k _ J M,by simp[*],V,O⟩
theorem aib:∀(l ks:List Nat),ks.Nodup->(af5 ks l).Nodup:=by
 intro l;induction l with
 |nil=>intro ks h;exact h
 |cons k r m=>
  intro ks h;unfold af5;refine m _ ?_;cases o:ks.any (Nat.beq k)with
  |true=>simp[*]
  |false=>simp only[Af];grind[List.nodup_append,Nat.beq,List.any_eq_true,Nat.beq_refl]
theorem ag5:∀(l ks:List Nat),∃r,af5 ks l=ks++r:=by
 intro l;induction l with
 |nil=>simp_all[af5]
 |cons k r m=>intro ks;unfold af5;obtain⟨q,o⟩:=m (bif ks.any (Nat.beq k)then ks else ks++[k]);grind
theorem aq4:∀(n:Nat)(ks:List Nat),ks.Nodup->(a02 st n ks).Nodup:=by
 intro n;induction n with
 |zero=>intro ks h;exact h
 |succ n m=>intro ks h;exact m _ (aib _ _ h)
theorem aoc:∀(n:Nat)(ks:List Nat),∃r,a02 st n ks=ks++r:=by
 intro n;induction n with
 |zero=>simp_all[a02]
 |succ n m=>intro ks;obtain⟨r,t⟩:=m (af5 ks (ks.flatMap (bap st)));obtain⟨q,o⟩:=ag5 (ks.flatMap (bap st)) ks;grind[a02,List.append_assoc]
theorem ad5(st:List BX)(args:List SV):(aau st args).Nodup:=aq4 _ _ (aib _ _ (by simp))
theorem an1(own:Bool)(st:List BX)(np:Nat)(vs:List SV):(agh own st np vs).Nodup:=aq4 _ _ (aib _ _ List.nodup_range)
theorem alh(own:Bool)(st:List BX)(np:Nat)(vs:List SV):∃r,agh own st np vs=List.range np++r:=by obtain⟨r,o⟩:=aoc (st:=st) 4 (af5 (List.range np) (ago false st vs++(bif own then at6 st vs else[])));obtain⟨q,m⟩:=ag5 (ago false st vs++(bif own then at6 st vs else[])) (List.range np);grind[agh,List.append_assoc]
theorem a09{st:List BX}{args:List SV}(h:aau st args=[]):ago false st args=[]:=by
 obtain⟨r,t⟩:=aoc (st:=st) 4 (af5 [] (ago false st args));unfold aau at h;rw[t]at h;have m:=(List.append_eq_nil_iff.1 h).1;cases o:ago false st args with
 |nil=>rfl
 |cons k r=>rw[o]at m;unfold af5 at m;obtain⟨q,z⟩:=ag5 r (bif ([]:List Nat).any (Nat.beq k)then[]else[]++[k]);grind
theorem auz{k:Nat}:∀{ks:List Nat},ks.any (Nat.beq k)=true->ks[idx k ks]?=some k:=by
 intro ks;induction ks with
 |nil=>grind
 |cons x r m=>grind[idx,Nat.beq,Nat.eq_of_beq_eq_true]
theorem am5{ks:List Nat}{k j:Nat}(h:acr ks k=some j):ks[j]?=some k:=by
 unfold acr at h;cases m:ks.any (Nat.beq k)with
 |false=>grind
 |true=>rw[m]at h;simp only[Ad,Aj]at h;grind[auz]
theorem aqw{ks:List Nat}(t:ks.Nodup){i j k:Nat}(m:ks[i]?=some k)(o:ks[j]?=some k):i=j:=by grind[List.getElem?_eq_some_iff,Nat.lt_trichotomy,absurd,List.pairwise_iff_getElem]
theorem a2z{ks:List Nat}(o:ks.Nodup){k j:Nat}(h:ks[j]?=some k):acr ks k=some j:=by have m:ks.any (Nat.beq k)=true:=List.any_eq_true.2 ⟨k,List.mem_of_getElem? h,Bg k⟩;unfold acr;rw[m];simp only[Ad,Aj];grind[aqw,auz]
theorem ajw{t:Nat->Option Nat}{o:Nat->Nat}:∀(ks:List Nat)(sub:List BX),ah4 st t o ks=some sub->sub.length=ks.length/\∀(j k:Nat),ks[j]?=some k->∃b m,st[k]?=some b/\aix st t o k b=some m/\sub[j]?=some m:=by
 intro ks;induction ks with
 |nil=>grind[ah4]
 |cons x r z=>grind[ah4]
def ags(ow:Own)(ks:List Nat)(b:Nat):Option Nat:=match ow b with|some k=>acr ks k|none=>none
theorem ae5{ks:List Nat}{b j:Nat}(h:ags ow ks b=some j):∃k,ks[j]?=some k/\ow b=some k:=by grind[ags,am5]
theorem avm{ks:List Nat}(t:ks.Nodup){j k b:Nat}(o:ks[j]?=some k)(m:ow b=some k):ags ow ks b=some j:=by grind[ags,a2z]
theorem ane{ks:List Nat}{b:Nat}(h:∀k,k∈ks->ow b≠some k):ags ow ks b=none:=by
 cases m:ags ow ks b with
 |none=>rfl
 |some j=>grind[ae5,absurd,List.mem_of_getElem?]
theorem Emb.sub{ks:List Nat}{sub:List BX}{o:Nat->Nat}(t:ks.Nodup)(z:ah4 st (acr ks) o ks=some sub):Emb (acr ks) o ow μ st (ags ow ks) (λj=>μ (ks.getD j 0)) sub:=by obtain⟨H,I⟩:=ajw ks sub z;refine⟨λk j b m J=>?_,λk j b m G=>avm t (am5 m) G⟩;have M:=am5 m;grind[acw,List.getD]
theorem Objs.sub{P:Program}(h:Objs P D ow μ st w){ks:List Nat}{sub:List BX}{γ:Nat->Nat}(W:ks.Nodup)(X:ah4 st (acr ks) γ ks=some sub):Objs P D (ags ow ks) (λj=>μ (ks.getD j 0)) sub w:=by
 have m:=Emb.sub (ow:=ow) (μ:=μ) W X;obtain⟨h1,V⟩:=ajw ks sub X;refine⟨λj b' Z=>?_,λb j J=>?_,h.dlt,λb j x J hx z o d=>?_⟩
 ·have M:j<ks.length:=by grind
  have G:ks[j]?=some ks[j]:=Ap M;obtain⟨U,Y,I,O,H⟩:=V j _ G;rw[Z]at H;cases H;exact(h.obj _ _ I).ren m I (a2z W G) O
 ·obtain⟨k,G,t⟩:=ae5 J;exact⟨(h.owlt _ _ t).1,by grind⟩
 ·obtain⟨k,G,t⟩:=ae5 J;obtain⟨U,Y,I,O,H⟩:=V j k G;rw[hx]at H;cases H;exact h.lone b k U t I (agn (acw O).1.symm z) o d
theorem WRel.objs(m:WRel Γ D ow μ st w):Objs Γ.P D ow μ st w:=by
 refine⟨λk b o=>?_,m.owlt,m.dlt,m.lone⟩;cases b with
 |box T s=>exact m.box k T s o
 |map K E es=>exact m.map k K E es o
 |acc g=>trivial
 |hole=>trivial
 |_=>exact m.obj k _ o
end
end Go.Ab
namespace Go.Ab
open Go
section
variable{Γ:Ctx}{D:Dom}{ow:Own}{μ:Nat->Nat}{st:List BX}{w:World}
theorem WRel.letGo(m:WRel Γ D ow μ st w)(t:Γ.np=0)(fz:List Nat):WRel Γ (ad0 D ow μ st fz) (λ_=>none) μ [] w:=by
 refine⟨λk T s h=>(by simp at h),λk K E es h=>(by simp at h),λk b h=>(by simp at h),λb k h=>(by cases h),λb o d=>?_,m.os,m.tape,m.output,m.hs,m.old,λb o d=>Or.inl (m.dom0 b o d),λb o d=>?_,λb k h=>(by cases h),(by rw[t];exact Nat.zero_le _),λk h=>(by omega),λk h=>(by omega),λb k x h=>(by cases h),m.keep0,λk h=>(by omega)⟩
 ·rcases aec d with d|⟨k,_,h,_⟩
  ·exact m.dlt b o d
  ·exact(m.owlt b k h).1
 ·rcases aec d with d|⟨k,_,h,_⟩
  ·exact m.domN b o d
  ·by_cases z:b<Γ.B
   ·exact Or.inr (Or.inr (by rw[m.owN b k h z];simp))
   ·exact Or.inr (Or.inl (by omega))
theorem a5y{P:Program}{args o:List SV}{m:Array Value}(Y:WRel Γ D ow μ st w)(Z:P=Γ.P)(t:∀(i:Nat)(s:SV)(v:Value),args[i]?=some s->m[i]?=some v->SRep Γ.P D w ow μ st s v)(V:renL st (λ_=>none) (λ_=>0) (frzL st args)=some o):
 o.length=args.length/\∀(i:Nat)(s:SV)(v:Value),o[i]?=some s->m[i]?=some v->SRep Γ.P (ad0 D ow μ st (aww args)) w (λ_=>none) μ [] s v:=by
 obtain⟨M,O⟩:=aiy V
 have J:Emb (λ_=>none) (λ_=>0) ow μ st (λ_=>none) μ []:=⟨λ_ _ _ h=>(by simp at h),λ_ _ _ h=>(by simp at h)⟩
 refine⟨by rw[M,ap7],λi s v W X=>?_⟩
 obtain⟨y,H,G⟩:=O i s W
 rw[a2x]at H
 obtain⟨z,I,rfl⟩:=Option.map_eq_some_iff.1 H
 exact ae7 J (aji (fz:=aww args) Y (t i z v I X) λk U=>awx I U) G
end
end Go.Ab
