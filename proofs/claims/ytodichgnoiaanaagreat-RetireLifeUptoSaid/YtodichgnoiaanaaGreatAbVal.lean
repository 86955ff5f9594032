/- Values of slots, and what it is that a value of the model is one. -/
import Derived.Test.YtodichgnoiaanaaGreatAbTabs
set_option linter.unusedVariables false
set_option linter.unusedSimpArgs false
set_option linter.unnecessarySimpa false
namespace Go.Ab
open Go
inductive SV where
 | undef
 | bool (b:Bool)
 | int (k:IntKind) (n:Int)
 | str (s:List UInt8)
 | slice (E:TypeId) (xs:List PV)
 | data (T:TypeId) (v:PV)
 | agg (T:TypeId) (fs:List SV)
 | map (K E:TypeId) (es:List (PV×PV))
 | nils
 | acc (k g:Nat) (E:TypeId) (xs:List PV)
 | ref (k:Nat) (path:List Nat) (T:TypeId)
 | mref (k:Nat)
 | iref (k:Nat)
 | bref (k:Nat) (T:TypeId)
 | nx (b:Bool) (i c:Int)
 | eif (b:Bool)
 | pto (T:TypeId) (v:PV)
 | fn (f:FuncId) (n:Nat) (caps:List SV)
 | tup (vs:List SV)
 | raw (v:Value)
 | gd (t:Nat) (want:Bool) (v:SV)
 | lit (E:TypeId) (xs:List PV)
 | arr (k g:Nat) (E:TypeId)
 | aref (k g i:Nat) (E:TypeId) (path:List Nat) (T:TypeId)
 | eref (k i:Nat) (E:TypeId)
 | asl (k lo n:Nat) (E:TypeId)
 | ifc (T:TypeId) (s:SV)
 | pan (s:SV)
 | sln (E:TypeId) (xs:List PV)
 | mitr (k:Nat)
 deriving Inhabited
inductive BX where
 | box (T:TypeId) (v:SV)
 | acc (g:Nat)
 | map (K E:TypeId) (es:List (PV×PV))
 | iter (s:List UInt8) (p:Nat)
 | bld (T:TypeId) (bs:List UInt8)
 | arr (E:TypeId) (g:Nat) (xs:List PV)
 | mit (K E:TypeId) (c:Option (PV×PV)) (es:List (PV×PV))
 | hole
 deriving Inhabited
def BX.sort:BX->List Nat
 | .iter _ _=>[1]
 | .bld T _=>[2,T]
 | .mit K E _ _=>[3,K,E]
 | _=>[]
def BX.fix:BX->List Nat
 | .iter _ _=>[1]
 | .bld _ _=>[2]
 | .arr _ _ _=>[3]
 | .mit _ _ _ _=>[4]
 | _=>[]
abbrev Own:=Nat->Option Nat
def aby (P:Program):TypeId->List Nat->Option (Nat×TypeId)
 | T,[]=>some (0,T)
 | T,i::p=>
  match P.underlying T with
  | some (.struct fs)=>
   match fs[i]? with
   | some f=>(aby P f.type p).map fun (o,t)=>(f.offset+o,t)
   | none=>none
  | _=>none
def BX.kind:BX->List Nat
 | .box T _=>[1,T]
 | .bld T _=>[2,T]
 | .arr E _ _=>[3,E]
 | .map K E _=>[4,K,E]
 | .iter _ _=>[5]
 | .acc _=>[6]
 | .hole=>[7]
 | .mit K E _ _=>[8,K,E]
inductive MapRep (P:Program) (D:Dom) (w:World) (K E:TypeId):List (PV×PV)->Value->Prop
 | nil:MapRep P D w K E [] (.map none)
 | mk {r clock:Nat}{ents:Array MapEntry}{es:List (PV×PV)} (kc vc:Nat->List Value):w.heap[r]?=some (.map ents clock)->D r 0->ents.size=es.length->
  (∀ (i:Nat) (x:PV×PV),es[i]?=some x->Rep P D w K x.1 (kc i))->(∀ (i:Nat) (x:PV×PV),es[i]?=some x->Rep P D w E x.2 (vc i))->
  au0 P K E kc vc ents clock->MapRep P D w K E es (.map (some r))
theorem MapRep.mono {P:Program}{D D':Dom}{w w':World}{K E:TypeId}{es:List (PV×PV)}{v:Value} (h:MapRep P D w K E es v) (hD:∀ x o,D x o->D' x o) (hk:Keeps D w w'):MapRep P D' w' K E es v:=by
 cases h with
 | nil=>exact .nil
 | mk kc vc hh hd hs h1 h2 he=>exact .mk kc vc (hk.map _ _ hd _ _ hh) (hD _ _ hd) hs (fun i x a=>(h1 i x a).mono hD hk) (fun i x a=>(h2 i x a).mono hD hk) he
def a6j (P:Program) (D:Dom) (w:World) (ow:Own) (k:Nat) (E:TypeId) (n:Nat) (v:Value):Prop:=
 v=.slice none 0 0∨∃ g cap cur,v=.slice (some ⟨g,0,none⟩) n cap/\w.heap[g]?=some (.cells cur E (0,0))/\n<=cap/\cap<=maxLen/\cur.size=cap*P.cellsOf E/\ow g=some k/\
  ∀ o,n*P.cellsOf E<=o->¬D g o
inductive SRep (P:Program) (D:Dom) (w:World) (ow:Own) (μ:Nat->Nat) (st:List BX):SV->Value->Prop
 | undef {v:Value}:SRep P D w ow μ st .undef v
 | bool {b:Bool}:SRep P D w ow μ st (.bool b) (.bool b)
 | int {k:IntKind}{n:Int}:SRep P D w ow μ st (.int k n) (.int k n)
 | str {s:List UInt8}:SRep P D w ow μ st (.str s) (.string ⟨s.toArray⟩)
 | slice {E:TypeId}{xs:List PV}{v:Value}:SliceRep P D w E xs v->SRep P D w ow μ st (.slice E xs) v
 | data {T:TypeId}{v:PV}{cs:List Value}:aaj P T=true->Rep P D w T v cs->SRep P D w ow μ st (.data T v) (.agg cs.toArray)
 | agg {T:TypeId}{fs:Array Field}{vs:List SV}{cs:List Value}:P.underlying T=some (.struct fs)->cs.length=P.cellsOf T->(∀ c,c∈cs->c.oneCell'=true)->vs.length=fs.size->
  (∀ (i:Nat) (v:SV) (f:Field),vs[i]?=some v->fs[i]?=some f->SRep P D w ow μ st v (pack P f.type ((cs.drop f.offset).take (P.cellsOf f.type))))->SRep P D w ow μ st (.agg T vs) (.agg cs.toArray)
 | map {K E:TypeId}{es:List (PV×PV)}{v:Value}:MapRep P D w K E es v->SRep P D w ow μ st (.map K E es) v
 | nils:SRep P D w ow μ st .nils (.slice none 0 0)
 | acc {k g g0:Nat}{E:TypeId}{xs:List PV}{v:Value}:SliceRep P D w E xs v->st[k]?=some (.acc g0)->g<=g0->(g=g0->a6j P D w ow k E xs.length v)->SRep P D w ow μ st (.acc k g E xs) v
 | ref {k:Nat}{path:List Nat}{T TB:TypeId}{v:SV}{off:Nat}:st[k]?=some (.box TB v)->aby P TB path=some (off,T)->SRep P D w ow μ st (.ref k path T) (.pointer (some ⟨μ k,off,none⟩))
 | mref {k:Nat}{K E:TypeId}{es:List (PV×PV)}:st[k]?=some (.map K E es)->SRep P D w ow μ st (.mref k) (.map (some (μ k)))
 | iref {k p:Nat}{s:List UInt8}:st[k]?=some (.iter s p)->SRep P D w ow μ st (.iref k) (.pointer (some ⟨μ k,0,none⟩))
 | bref {k:Nat}{T TB:TypeId}{bs:List UInt8}:st[k]?=some (.bld TB bs)->SRep P D w ow μ st (.bref k T) (.pointer (some ⟨μ k,0,none⟩))
 | nx {b:Bool}{i c:Int}{v:Value}:(b=true->v=.tuple #[.bool true,.int .i64 i,.int .i32 c])->(b=false->v=.tuple #[.bool false])->SRep P D w ow μ st (.nx b i c) v
 | eif {b:Bool}{v:Value}:(b=true->v=.nilIface)->(b=false->∃ t u,v=.iface t u)->SRep P D w ow μ st (.eif b) v
 | pto {T:TypeId}{v:PV}{b off:Nat}{cs:List Value}:Held D w b off cs->Rep P D w T v cs->SRep P D w ow μ st (.pto T v) (.pointer (some ⟨b,off,none⟩))
 | fn {f:FuncId}{n:Nat}{caps:List SV}{us vs:Array Value}:us.size=n->(us++vs).size=caps.length->(∀ (i:Nat) (s:SV) (v:Value),caps[i]?=some s->(us++vs)[i]?=some v->SRep P D w ow μ st s v)->SRep P D w ow μ st (.fn f n caps) (.func (.func f) us vs)
 | tup {ss:List SV}{vs:Array Value}:vs.size=ss.length->(∀ (i:Nat) (s:SV) (v:Value),ss[i]?=some s->vs[i]?=some v->SRep P D w ow μ st s v)->SRep P D w ow μ st (.tup ss) (.tuple vs)
 | raw {v:Value}:SRep P D w ow μ st (.raw v) v
 | lit {E:TypeId}{xs:List PV}{a:Addr}:SliceRep P D w E xs (.slice (some a) xs.length xs.length)->SRep P D w ow μ st (.lit E xs) (.slice (some a) xs.length xs.length)
 | arrOld {k g g0:Nat}{E E':TypeId}{xs:List PV}{v:Value}:st[k]?=some (.arr E' g0 xs)->g<g0->v.oneCell'=true->SRep P D w ow μ st (.arr k g E) v
 | arrNil {k g:Nat}{E:TypeId}{a:Option Addr}:st[k]?=some (.arr E g [])->SRep P D w ow μ st (.arr k g E) (.slice a 0 0)
 | arr {k g cap:Nat}{E:TypeId}{xs:List PV}{cur:Array Value}:st[k]?=some (.arr E g xs)->xs.length<=cap->cap<=maxLen->w.heap[μ k]?=some (.cells cur E (0,0))->ow (μ k)=some k->cap*P.cellsOf E=cur.size->SRep P D w ow μ st (.arr k g E) (.slice (some ⟨μ k,0,none⟩) xs.length cap)
 | arefOld {k g g0 i:Nat}{E E' T:TypeId}{path:List Nat}{xs:List PV}{v:Value}:st[k]?=some (.arr E' g0 xs)->g<g0->v.oneCell'=true->SRep P D w ow μ st (.aref k g i E path T) v
 | aref {k g i off:Nat}{E T:TypeId}{path:List Nat}{xs:List PV}{cur:Array Value}:st[k]?=some (.arr E g xs)->i<xs.length->aby P E path=some (off,T)->w.heap[μ k]?=some (.cells cur E (0,0))->ow (μ k)=some k->SRep P D w ow μ st (.aref k g i E path T) (.pointer (some ⟨μ k,i*P.cellsOf E+off,none⟩))
 | eref {k i n:Nat}{E TB:TypeId}{v:SV}:st[k]?=some (.box TB v)->P.underlying TB=some (.array n E)->i<n->SRep P D w ow μ st (.eref k i E) (.pointer (some ⟨μ k,i*P.cellsOf E,none⟩))
 | asl {k lo n m cap:Nat}{E TB:TypeId}{v:SV}:st[k]?=some (.box TB v)->P.underlying TB=some (.array m E)->lo+n<=m->n<=cap->SRep P D w ow μ st (.asl k lo n E) (.slice (some ⟨μ k,lo*P.cellsOf E,none⟩) n cap)
 | ifc {T:TypeId}{s:SV}{u:Value}:SRep P D w ow μ st s u->SRep P D w ow μ st (.ifc T s) (.iface T u)
 | mitr {k:Nat}{K E:TypeId}{c:Option (PV×PV)}{es:List (PV×PV)}:st[k]?=some (.mit K E c es)->SRep P D w ow μ st (.mitr k) (.pointer (some ⟨μ k,0,none⟩))
 | sln {E:TypeId}{xs:List PV}{a:Addr}{n c:Nat}:SliceRep P D w E xs (.slice (some a) n c)->SRep P D w ow μ st (.sln E xs) (.slice (some a) n c)
def ArrKeep (w:World) (ow:Own) (μ:Nat->Nat) (w':World) (ow':Own) (μ':Nat->Nat) (k:Nat) (E:TypeId):Prop:=
 ∀ cur,w.heap[μ k]?=some (.cells cur E (0,0))->ow (μ k)=some k->μ' k=μ k/\ow' (μ k)=some k/\∃ cur',w'.heap[μ k]?=some (.cells cur' E (0,0))/\cur'.size=cur.size
theorem ArrKeep.refl (w:World) (ow:Own) (μ:Nat->Nat) (k:Nat) (E:TypeId):ArrKeep w ow μ w ow μ k E:=fun cur h ho=>⟨rfl,ho,cur,h,rfl⟩
theorem ArrKeep.trans {w0 w1 w2:World}{ow0 ow1 ow2:Own}{μ0 μ1 μ2:Nat->Nat}{k:Nat}{E:TypeId} (h:ArrKeep w0 ow0 μ0 w1 ow1 μ1 k E) (h':ArrKeep w1 ow1 μ1 w2 ow2 μ2 k E):ArrKeep w0 ow0 μ0 w2 ow2 μ2 k E:=by
 intro cur hc ho
 obtain ⟨e1,o1,c1,q1,q2⟩:=h cur hc ho
 obtain ⟨e2,o2,c2,q3,q4⟩:=h' c1 (by rw [e1];exact q1) (by rw [e1];exact o1)
 rw [e1] at e2 o2 q3
 exact ⟨e2,o2,c2,q3,q4.trans q2⟩
structure Moves (D:Dom) (w:World) (ow:Own) (μ:Nat->Nat) (st:List BX) (D':Dom) (w':World) (ow':Own) (μ':Nat->Nat) (st':List BX):Prop where
 dom:∀ x o,D x o->D' x o
 keeps:Keeps D w w'
 box:∀ (k:Nat) (T:TypeId) (v:SV),st[k]?=some (.box T v)->μ' k=μ k/\∃ v',st'[k]?=some (.box T v')
 map:∀ (k:Nat) (K E:TypeId) (es:List (PV×PV)),st[k]?=some (.map K E es)->μ' k=μ k/\∃ es',st'[k]?=some (.map K E es')
 obj:∀ (k:Nat) (b:BX),st[k]?=some b->b.sort≠[]->μ' k=μ k/\∃ b',st'[k]?=some b'/\b'.sort=b.sort
 arr:∀ (k:Nat) (E:TypeId) (g:Nat) (xs:List PV),st[k]?=some (.arr E g xs)->∃ g' xs',st'[k]?=some (.arr E g' xs')/\g<=g'/\(g'=g->xs'.length=xs.length/\ArrKeep w ow μ w' ow' μ' k E)
 acc:∀ (k g:Nat),st[k]?=some (.acc g)->∃ g',st'[k]?=some (.acc g')/\g<=g'/\
  (g'=g->∀ b,ow b=some k->w'.heap[b]?=w.heap[b]?/\ow' b=some k/\∀ o,D' b o->D b o)
theorem Moves.refl (D:Dom) (w:World) (ow:Own) (μ:Nat->Nat) (st:List BX):Moves D w ow μ st D w ow μ st:=
 ⟨fun _ _ h=>h,Keeps.refl _ _,fun _ _ _ h=>⟨rfl,_,h⟩,fun _ _ _ _ h=>⟨rfl,_,h⟩,fun _ _ h _=>⟨rfl,_,h,rfl⟩,fun _ _ _ _ h=>⟨_,_,h,Nat.le_refl _,fun _=>⟨rfl,ArrKeep.refl _ _ _ _ _⟩⟩,fun _ _ h=>⟨_,h,Nat.le_refl _,fun _ _ h=>⟨rfl,h,fun _ h=>h⟩⟩⟩
theorem Moves.trans {D D1 D2:Dom}{w w1 w2:World}{ow ow1 ow2:Own}{μ μ1 μ2:Nat->Nat}{st st1 st2:List BX} (h:Moves D w ow μ st D1 w1 ow1 μ1 st1) (k:Moves D1 w1 ow1 μ1 st1 D2 w2 ow2 μ2 st2):Moves D w ow μ st D2 w2 ow2 μ2 st2:=by
 refine ⟨fun x o d=>k.dom x o (h.dom x o d),h.keeps.trans k.keeps h.dom,fun j T v e=>?_,fun j K E es e=>?_,fun j b e hs=>?_,fun j E g xs e=>?_,fun j g e=>?_⟩
 ·obtain ⟨q1,v1,e1⟩:=h.box j T v e
  obtain ⟨q2,v2,e2⟩:=k.box j T v1 e1
  exact ⟨q2.trans q1,v2,e2⟩
 ·obtain ⟨q1,v1,e1⟩:=h.map j K E es e
  obtain ⟨q2,v2,e2⟩:=k.map j K E v1 e1
  exact ⟨q2.trans q1,v2,e2⟩
 ·obtain ⟨q1,b1,e1,s1⟩:=h.obj j b e hs
  obtain ⟨q2,b2,e2,s2⟩:=k.obj j b1 e1 (by rw [s1];exact hs)
  exact ⟨q2.trans q1,b2,e2,s2.trans s1⟩
 ·obtain ⟨g1,x1,e1,l1,k1⟩:=h.arr j E g xs e
  obtain ⟨g2,x2,e2,l2,k2⟩:=k.arr j E g1 x1 e1
  refine ⟨g2,x2,e2,Nat.le_trans l1 l2,fun eq=>?_⟩
  obtain ⟨a1,a2⟩:=k1 (by omega)
  obtain ⟨b1,b2⟩:=k2 (by omega)
  exact ⟨b1.trans a1,a2.trans b2⟩
 ·obtain ⟨g1,e1,l1,k1⟩:=h.acc j g e
  obtain ⟨g2,e2,l2,k2⟩:=k.acc j g1 e1
  refine ⟨g2,e2,Nat.le_trans l1 l2,fun eq b ob=>?_⟩
  obtain ⟨a1,a2,a3⟩:=k1 (by omega) b ob
  obtain ⟨b1,b2,b3⟩:=k2 (by omega) b a2
  exact ⟨b1.trans a1,b2,fun o d=>a3 o (b3 o d)⟩
theorem SRep.mono {P:Program}{D D':Dom}{w w':World}{ow ow':Own}{μ μ':Nat->Nat}{st st':List BX}{s:SV}{v:Value} (h:SRep P D w ow μ st s v) (m:Moves D w ow μ st D' w' ow' μ' st'):SRep P D' w' ow' μ' st' s v:=by
 induction h with
 | undef=>exact .undef
 | bool=>exact .bool
 | int=>exact .int
 | str=>exact .str
 | slice h=>exact .slice (h.mono m.dom m.keeps)
 | data hT h=>exact .data hT (h.mono m.dom m.keeps)
 | agg hT hl ho hv _ ih=>exact .agg hT hl ho hv ih
 | map h=>exact .map (h.mono m.dom m.keeps)
 | nils=>exact .nils
 | @acc k g g0 E xs v h hk hg ho=>
  obtain ⟨g',e',hle,hs⟩:=m.acc k g0 hk
  refine .acc (h.mono m.dom m.keeps) e' (Nat.le_trans hg hle) (fun hgg=>?_)
  have e0:g=g0:=by omega
  have e1:g'=g0:=by omega
  rcases ho e0 with ho | ⟨b,cap,cur,hv,hh,h1,h2,h3,hb,hD⟩
  ·exact Or.inl ho
  ·obtain ⟨k1,k2,k3⟩:=hs e1 b hb
   exact Or.inr ⟨b,cap,cur,hv,k1.trans hh,h1,h2,h3,k2,fun o ho hd=>hD o ho (k3 o hd)⟩
 | ref hk hp=>
  obtain ⟨e,v',hv'⟩:=m.box _ _ _ hk
  rw [<-e]
  exact .ref hv' hp
 | mref hk=>
  obtain ⟨e,v',hv'⟩:=m.map _ _ _ _ hk
  rw [<-e]
  exact .mref hv'
 | iref hk=>
  obtain ⟨e,b',hv',hs⟩:=m.obj _ _ hk (by simp [BX.sort])
  rw [<-e]
  cases b'<;>simp [BX.sort] at hs
  exact .iref hv'
 | bref hk=>
  obtain ⟨e,b',hv',hs⟩:=m.obj _ _ hk (by simp [BX.sort])
  rw [<-e]
  cases b'<;>simp [BX.sort] at hs
  exact .bref hv'
 | nx h1 h2=>exact .nx h1 h2
 | eif h1 h2=>exact .eif h1 h2
 | ifc _ ih=>exact .ifc ih
 | pto hh hr=>exact .pto (hh.mono m.dom m.keeps) (hr.mono m.dom m.keeps)
 | fn hn hs _ ih=>exact .fn hn hs ih
 | tup hs _ ih=>exact .tup hs ih
 | raw=>exact .raw
 | lit h=>exact .lit (h.mono m.dom m.keeps)
 | sln h=>exact .sln (h.mono m.dom m.keeps)
 | mitr hk=>
  obtain ⟨e,b',hv',hs⟩:=m.obj _ _ hk (by simp [BX.sort])
  rw [<-e]
  cases b'<;>simp [BX.sort] at hs
  obtain ⟨rfl,rfl⟩:=hs
  exact .mitr hv'
 | eref hk hT hi=>
  obtain ⟨e,v',hv'⟩:=m.box _ _ _ hk
  rw [<-e]
  exact .eref hv' hT hi
 | asl hk hT hi hc=>
  obtain ⟨e,v',hv'⟩:=m.box _ _ _ hk
  rw [<-e]
  exact .asl hv' hT hi hc
 | arrOld hk hg ho=>
  obtain ⟨g',xs',h1,h2,_⟩:=m.arr _ _ _ _ hk
  exact .arrOld h1 (by omega) ho
 | @arrNil k g E a hk=>
  obtain ⟨g',xs',h1,h2,h3⟩:=m.arr _ _ _ _ hk
  by_cases hg:g'=g
  ·obtain ⟨h4,_⟩:=h3 hg
   have:xs'=[]:=List.length_eq_zero_iff.1 h4
   subst this;subst hg
   exact .arrNil h1
  ·exact .arrOld h1 (by omega) rfl
 | @arr k g cap E xs cur hk hl hmx hc ho hs=>
  obtain ⟨g',xs',h1,h2,h3⟩:=m.arr _ _ _ _ hk
  by_cases hg:g'=g
  ·obtain ⟨h4,h5⟩:=h3 hg
   obtain ⟨e1,e2,cur',e3,e4⟩:=h5 cur hc ho
   subst hg
   rw [<-h4,<-e1]
   exact .arr h1 (by omega) hmx (by rw [e1];exact e3) (by rw [e1];exact e2) (by omega)
  ·exact .arrOld h1 (by omega) rfl
 | arefOld hk hg ho=>
  obtain ⟨g',xs',h1,h2,_⟩:=m.arr _ _ _ _ hk
  exact .arefOld h1 (by omega) ho
 | @aref k g i off E T path xs cur hk hl hp hc ho=>
  obtain ⟨g',xs',h1,h2,h3⟩:=m.arr _ _ _ _ hk
  by_cases hg:g'=g
  ·obtain ⟨h4,h5⟩:=h3 hg
   obtain ⟨e1,e2,cur',e3,e4⟩:=h5 cur hc ho
   subst hg
   rw [<-e1]
   exact .aref h1 (by omega) hp (by rw [e1];exact e3) (by rw [e1];exact e2)
  ·exact .arefOld h1 (by omega) rfl
def ofPV (P:Program) (T:TypeId) (v:PV):SV:=
 match P.underlying T with
 | some .bool=>.bool v.asBool
 | some (.int k)=>.int k v.asInt
 | some .string=>.str v.asStr
 | some (.slice E)=>.slice E v.asList
 | some (.struct _)=>.data T v
 | some (.array _ _)=>.data T v
 | some (.map K E)=>.map K E v.asMap
 | _=>.raw v.asRaw
theorem Rep.ofPV {P:Program}{D:Dom}{w:World}{ow:Own}{μ:Nat->Nat}{st:List BX}{T:TypeId}{v:PV}{cs:List Value} (h:Rep P D w T v cs):SRep P D w ow μ st (ofPV P T v) (pack P T cs):=by
 cases h with
 | bool hT=>simp only [Ab.ofPV,hT,pack,aaj];exact .bool
 | int hT=>simp only [Ab.ofPV,hT,pack,aaj];exact .int
 | str hT=>simp only [Ab.ofPV,hT,pack,aaj];exact .str
 | nil hT h2=>simp only [Ab.ofPV,hT,pack,aaj];exact .slice (.nil h2)
 | slice hT hl hL hr hc=>simp only [Ab.ofPV,hT,pack,aaj];exact .slice (.mk hl hL hr hc)
 | agg hT hl ho hv hr=>
  have ha:aaj P T=true:=by simp [aaj,hT]
  simp only [Ab.ofPV,hT,pack,ha,if_true]
  exact .data ha (.agg hT hl ho hv hr)
 | arr hT hl ho hv hr=>
  have ha:aaj P T=true:=by simp [aaj,hT]
  simp only [Ab.ofPV,hT,pack,ha,if_true]
  exact .data ha (.arr hT hl ho hv hr)
 | mapnil hT=>simp only [Ab.ofPV,hT,pack,aaj];exact .map .nil
 | map kc vc hT h1 h2 h3 h4 h5 h6=>simp only [Ab.ofPV,hT,pack,aaj];exact .map (.mk kc vc h1 h2 h3 h4 h5 h6)
 | @raw T v h ho=>
  have e:Ab.ofPV P T (.raw v)=.raw v:=by
   unfold rawT at h
   unfold Ab.ofPV
   split at h<;>first | cases h | skip
   split<;>simp_all [PV.asRaw]
  have ha:aaj P T=false:=by
   unfold rawT at h
   unfold aaj
   split at h<;>first | cases h | skip
   split<;>simp_all
  rw [e]
  simp only [pack,ha]
  exact .raw
end Go.Ab
