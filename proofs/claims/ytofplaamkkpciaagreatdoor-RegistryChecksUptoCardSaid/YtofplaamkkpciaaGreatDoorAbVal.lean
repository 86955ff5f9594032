/- Values of slots, and what it is that a value of the model is one. -/
import Derived.Test.YtofplaamkkpciaaGreatDoorAbTabs
set_option linter.unusedVariables false
set_option linter.unusedSimpArgs false
set_option linter.unnecessarySimpa false
namespace Go.Ab
open Go
inductive SV where
 |undef
 |bool (b:Bool)
 |int (k:IntKind) (n:Int)
 |str (s:Bn)
 |slice (E:TypeId) (xs:List PV)
 |data (T:TypeId) (v:PV)
 |agg (T:TypeId) (fs:List SV)
 |map (K E:TypeId) (es:List (PV×PV))
 |nils
 |acc (k g:Nat) (E:TypeId) (xs:List PV)
 |ref (k:Nat) (path:List Nat) (T:TypeId)
 |mref (k:Nat)
 |iref (k:Nat)
 |bref (k:Nat) (T:TypeId)
 |nx (b:Bool) (i c:Int)
 |eif (b:Bool)
 |pto (T:TypeId) (v:PV)
 |fn (f:FuncId) (n:Nat) (caps:List SV)
 |tup (vs:List SV)
 |raw (v:Value)
 |gd (t:Nat) (want:Bool) (v:SV)
 |lit (E:TypeId) (xs:List PV)
 |arr (k g:Nat) (E:TypeId)
 |aref (k g i:Nat) (E:TypeId) (path:List Nat) (T:TypeId)
 |eref (k i:Nat) (E:TypeId)
 |asl (k lo n:Nat) (E:TypeId)
 |ifc (T:TypeId) (s:SV)
 |pan (s:SV)
 |sln (E:TypeId) (xs:List PV)
 |mitr (k:Nat)
 |avw (k g lo:Nat) (E:TypeId)
 |lits (E:TypeId) (ss:List SV)
 deriving Inhabited
inductive BX where
 |box (T:TypeId) (v:SV)
 |acc (g:Nat)
 |map (K E:TypeId) (es:List (PV×PV))
 |iter (s:Bn) (p:Nat)
 |bld (T:TypeId) (bs:Bn)
 |arr (E:TypeId) (g:Nat) (xs:List PV)
 |mit (K E:TypeId) (c:Option (PV×PV)) (es:List (PV×PV))
 |hole
 deriving Inhabited
def BX.sort:BX->List Nat
 |.iter _ _=>[1]
 |.bld T _=>[2,T]
 |.mit K E _ _=>[3,K,E]
 |_=>[]
def BX.fix:BX->List Nat
 |.iter _ _=>[1]
 |.bld _ _=>[2]
 |.arr _ _ _=>[3]
 |.mit _ _ _ _=>[4]
 |_=>[]
abbrev Own:=Nat->Option Nat
def arrF(P:Program)(n:Nat)(E:TypeId):Option (Array Field):=
 match P.underlying E with
 |some (.slice _)=>bif Nat.ble n 8 then some ((List.range n).map λi=>{ name:= "",type:=E,offset:=i*P.cellsOf E,embedded:=false,tag:= "",pkgPath:= "",byteOffset:=0:Field }).toArray else none
 |_=>none
def aggF(P:Program)(T:TypeId):Option (Array Field):=
 match P.underlying T with
 |some (.struct m)=>some m
 |some (.array n E)=>arrF P n E
 |_=>none
theorem abj{P:Program}{T:TypeId}{m:Array Field}(h:P.underlying T=some (.struct m)):aggF P T=some m:=by simp only[aggF,h]
theorem ak8{P:Program}{n:Nat}{E:TypeId}{m:Array Field}(h:arrF P n E=some m):m.size=n/\∀(i:Nat)(f:Field),m[i]?=some f->i<n/\f.type=E/\f.offset=i*P.cellsOf E:=by unfold arrF at h;grind
theorem ams{P:Program}{T:TypeId}{m:Array Field}(h:aggF P T=some m):P.underlying T=some (.struct m)\/∃n E,P.underlying T=some (.array n E)/\arrF P n E=some m:=by grind[aggF]
theorem aor{P:Program}{T:TypeId}{m:Array Field}(h:aggF P T=some m):aah P T=true:=by rcases ams h with h|⟨n,E,h,_⟩<;>simp[aah,h]
theorem Rep.ofAggF{P:Program}{D:Dom}{w:World}{T:TypeId}{m:Array Field}{vs:List PV}{cs:List Value}(o:aggF P T=some m)(z:cs.length=P.cellsOf T)(G:∀c,c∈cs->c.oneCell'=true)(J:vs.length=m.size)
 (I:∀(i:Nat)(v:PV)(f:Field),vs[i]?=some v->m[i]?=some f->Rep P D w f.type v ((cs.drop f.offset).take (P.cellsOf f.type))):Rep P D w T (.agg vs) cs:=by
 rcases ams o with o|⟨n,E,o,H⟩
 ·exact .agg o z G J I
 ·obtain⟨M,O⟩:=ak8 H;refine .arr o z G (by omega) (λi v V=>?_);have t:i<m.size:=by grind
  have U:m[i]?=some m[i]:=Array.getElem?_eq_getElem t;grind
theorem Rep.aggF{P:Program}{D:Dom}{w:World}{T:TypeId}{o:Array Field}{v:PV}{cs:List Value}(h:Rep P D w T v cs)(t:Ab.aggF P T=some o):∃vs,v=.agg vs/\cs.length=P.cellsOf T/\(∀c,c∈cs->c.oneCell'=true)/\vs.length=o.size/\
 ∀(i:Nat)(v:PV)(f:Field),vs[i]?=some v->o[i]?=some f->Rep P D w f.type v ((cs.drop f.offset).take (P.cellsOf f.type)):=by
 rcases ams t with t|⟨n,E,t,z⟩
 ·cases h with
  |agg m G H M I=>grind
  |raw J=>grind[rawT]
  |arr m=>grind
  |bool m=>grind
  |int m=>grind
  |str m=>grind
  |nil m=>grind
  |slice m=>grind
  |mapnil m=>grind
  |map _ _ m=>grind
 ·obtain⟨O,U⟩:=ak8 z;cases h with
  |arr m G H M I=>grind
  |raw J=>grind[rawT]
  |agg m=>grind
  |bool m=>grind
  |int m=>grind
  |str m=>grind
  |nil m=>grind
  |slice m=>grind
  |mapnil m=>grind
  |map _ _ m=>grind
def acf(P:Program):TypeId->List Nat->Option (Nat×TypeId)
 |T,[]=>some (0,T)
 |T,i::p=>
  match aggF P T with
  |some m=>
   match m[i]? with
   |some f=>(acf P f.type p).map λ(o,t)=>(f.offset+o,t)
   |none=>none
  |none=>none
def BX.kind:BX->List Nat
 |.box T _=>[1,T]
 |.bld T _=>[2,T]
 |.arr E _ _=>[3,E]
 |.map K E _=>[4,K,E]
 |.iter _ _=>[5]
 |.acc _=>[6]
 |.hole=>[7]
 |.mit K E _ _=>[8,K,E]
inductive MapRep(P:Program)(D:Dom)(w:World)(K E:TypeId):List (PV×PV)->Value->Prop
 |nil:MapRep P D w K E [] (.map none)
 |mk {r clock:Nat}{ents:Array MapEntry}{es:List (PV×PV)} (kc vc:Nat->List Value):w.heap[r]?=some (.map ents clock)->D r 0->ents.size=es.length->
  (∀(i:Nat)(x:PV×PV),es[i]?=some x->Rep P D w K x.1 (kc i))->(∀(i:Nat)(x:PV×PV),es[i]?=some x->Rep P D w E x.2 (vc i))->
  a2c P K E kc vc ents clock->MapRep P D w K E es (.map (some r))
theorem MapRep.mono{P:Program}{D D':Dom}{w w':World}{K E:TypeId}{es:List (PV×PV)}{v:Value}(h:MapRep P D w K E es v)(m:∀x o,D x o->D' x o)(t:Keeps D w w'):MapRep P D' w' K E es v:=by
 cases h with
 |nil=>exact .nil
 |mk kc vc J z M G H I=>exact .mk kc vc (t.map _ _ z _ _ J) (m _ _ z) M (λi x a=>(G i x a).mono m t) (λi x a=>(H i x a).mono m t) I
def bjg(P:Program)(D:Dom)(w:World)(ow:Own)(k:Nat)(E:TypeId)(n:Nat)(v:Value):Prop:=
 (∃a,v=.slice a 0 0)\/∃g off cap m,v=.slice (some ⟨g,off,none⟩) n cap/\w.heap[g]?=some (.cells m E (0,0))/\n<=cap/\cap<=maxLen/\m.size=off+cap*P.cellsOf E/\ow g=some k/\
  ∀o,off+n*P.cellsOf E<=o->¬D g o
inductive SRep(P:Program)(D:Dom)(w:World)(ow:Own)(μ:Nat->Nat)(st:List BX):SV->Value->Prop
 |undef {v:Value}:SRep P D w ow μ st .undef v
 |bool {b:Bool}:SRep P D w ow μ st (.bool b) (.bool b)
 |int {k:IntKind}{n:Int}:SRep P D w ow μ st (.int k n) (.int k n)
 |str {s:Bn}:SRep P D w ow μ st (.str s) (.string ⟨s.toArray⟩)
 |slice {E:TypeId}{xs:List PV}{v:Value}:SliceRep P D w E xs v->SRep P D w ow μ st (.slice E xs) v
 |data {T:TypeId}{v:PV}{cs:List Value}:aah P T=true->Rep P D w T v cs->SRep P D w ow μ st (.data T v) (.agg cs.toArray)
 |agg {T:TypeId}{fs:Array Field}{vs:List SV}{cs:List Value}:aggF P T=some fs->cs.length=P.cellsOf T->(∀c,c∈cs->c.oneCell'=true)->vs.length=fs.size->
  (∀(i:Nat)(v:SV)(f:Field),vs[i]?=some v->fs[i]?=some f->SRep P D w ow μ st v (pack P f.type ((cs.drop f.offset).take (P.cellsOf f.type))))->SRep P D w ow μ st (.agg T vs) (.agg cs.toArray)
 |map {K E:TypeId}{es:List (PV×PV)}{v:Value}:MapRep P D w K E es v->SRep P D w ow μ st (.map K E es) v
 |nils:SRep P D w ow μ st .nils (.slice none 0 0)
 |acc {k g g0:Nat}{E:TypeId}{xs:List PV}{v:Value}:SliceRep P D w E xs v->st[k]?=some (.acc g0)->g<=g0->(g=g0->bjg P D w ow k E xs.length v)->SRep P D w ow μ st (.acc k g E xs) v
 |ref {k:Nat}{path:List Nat}{T TB:TypeId}{v:SV}{off:Nat}:st[k]?=some (.box TB v)->acf P TB path=some (off,T)->SRep P D w ow μ st (.ref k path T) (.pointer (some ⟨μ k,off,none⟩))
 |mref {k:Nat}{K E:TypeId}{es:List (PV×PV)}:st[k]?=some (.map K E es)->SRep P D w ow μ st (.mref k) (.map (some (μ k)))
 |iref {k p:Nat}{s:Bn}:st[k]?=some (.iter s p)->SRep P D w ow μ st (.iref k) (.pointer (some ⟨μ k,0,none⟩))
 |bref {k:Nat}{T TB:TypeId}{bs:Bn}:st[k]?=some (.bld TB bs)->SRep P D w ow μ st (.bref k T) (.pointer (some ⟨μ k,0,none⟩))
 |nx {b:Bool}{i c:Int}{v:Value}:(b=true->v=.tuple #[.bool true,.int .i64 i,.int .i32 c])->(b=false->v=.tuple #[.bool false])->SRep P D w ow μ st (.nx b i c) v
 |eif {b:Bool}{v:Value}:(b=true->v=.nilIface)->(b=false->∃t u,v=.iface t u)->SRep P D w ow μ st (.eif b) v
 |pto {T:TypeId}{v:PV}{b off:Nat}{cs:List Value}:Held D w b off cs->Rep P D w T v cs->SRep P D w ow μ st (.pto T v) (.pointer (some ⟨b,off,none⟩))
 |fn {f:FuncId}{n:Nat}{caps:List SV}{us vs:Array Value}:us.size=n->(us++vs).size=caps.length->(∀(i:Nat)(s:SV)(v:Value),caps[i]?=some s->(us++vs)[i]?=some v->SRep P D w ow μ st s v)->SRep P D w ow μ st (.fn f n caps) (.func (.func f) us vs)
 |tup {ss:List SV}{vs:Array Value}:vs.size=ss.length->(∀(i:Nat)(s:SV)(v:Value),ss[i]?=some s->vs[i]?=some v->SRep P D w ow μ st s v)->SRep P D w ow μ st (.tup ss) (.tuple vs)
 |raw {v:Value}:SRep P D w ow μ st (.raw v) v
 |lit {E:TypeId}{xs:List PV}{a:Addr}:SliceRep P D w E xs (.slice (some a) xs.length xs.length)->SRep P D w ow μ st (.lit E xs) (.slice (some a) xs.length xs.length)
 |arrOld {k g g0:Nat}{E E':TypeId}{xs:List PV}{v:Value}:st[k]?=some (.arr E' g0 xs)->g<g0->v.oneCell'=true->SRep P D w ow μ st (.arr k g E) v
 |arrNil {k g:Nat}{E:TypeId}{a:Option Addr}:st[k]?=some (.arr E g [])->SRep P D w ow μ st (.arr k g E) (.slice a 0 0)
 |arr {k g cap:Nat}{E:TypeId}{xs:List PV}{cur:Array Value}:st[k]?=some (.arr E g xs)->xs.length<=cap->cap<=maxLen->w.heap[μ k]?=some (.cells cur E (0,0))->ow (μ k)=some k->cap*P.cellsOf E=cur.size->SRep P D w ow μ st (.arr k g E) (.slice (some ⟨μ k,0,none⟩) xs.length cap)
 |arefOld {k g g0 i:Nat}{E E' T:TypeId}{path:List Nat}{xs:List PV}{v:Value}:st[k]?=some (.arr E' g0 xs)->g<g0->v.oneCell'=true->SRep P D w ow μ st (.aref k g i E path T) v
 |aref {k g i off:Nat}{E T:TypeId}{path:List Nat}{xs:List PV}{cur:Array Value}:st[k]?=some (.arr E g xs)->i<xs.length->acf P E path=some (off,T)->w.heap[μ k]?=some (.cells cur E (0,0))->ow (μ k)=some k->SRep P D w ow μ st (.aref k g i E path T) (.pointer (some ⟨μ k,i*P.cellsOf E+off,none⟩))
 |eref {k i n:Nat}{E TB:TypeId}{v:SV}:st[k]?=some (.box TB v)->P.underlying TB=some (.array n E)->i<n->SRep P D w ow μ st (.eref k i E) (.pointer (some ⟨μ k,i*P.cellsOf E,none⟩))
 |asl {k lo n m cap:Nat}{E TB:TypeId}{v:SV}:st[k]?=some (.box TB v)->P.underlying TB=some (.array m E)->lo+n<=m->n<=cap->SRep P D w ow μ st (.asl k lo n E) (.slice (some ⟨μ k,lo*P.cellsOf E,none⟩) n cap)
 |ifc {T:TypeId}{s:SV}{u:Value}:SRep P D w ow μ st s u->SRep P D w ow μ st (.ifc T s) (.iface T u)
 |mitr {k:Nat}{K E:TypeId}{c:Option (PV×PV)}{es:List (PV×PV)}:st[k]?=some (.mit K E c es)->SRep P D w ow μ st (.mitr k) (.pointer (some ⟨μ k,0,none⟩))
 |sln {E:TypeId}{xs:List PV}{a:Addr}{n c:Nat}:SliceRep P D w E xs (.slice (some a) n c)->SRep P D w ow μ st (.sln E xs) (.slice (some a) n c)
 |avwOld {k g g0 lo:Nat}{E E':TypeId}{xs:List PV}{v:Value}:st[k]?=some (.arr E' g0 xs)->g<g0->SRep P D w ow μ st (.avw k g lo E) v
 |avw {k g lo cap:Nat}{E:TypeId}{xs:List PV}{cur:Array Value}:st[k]?=some (.arr E g xs)->lo<xs.length->xs.length<=cap->cap<=maxLen->w.heap[μ k]?=some (.cells cur E (0,0))->ow (μ k)=some k->cap*P.cellsOf E=cur.size->SRep P D w ow μ st (.avw k g lo E) (.slice (some ⟨μ k,lo*P.cellsOf E,none⟩) (xs.length-lo) (cap-lo))
 |lits {E:TypeId}{ss:List SV}{b off:Nat}{L:List Value}:L.length=ss.length*P.cellsOf E->(∀c,c∈L->c.oneCell'=true)->Held D w b off L->(∀(i:Nat)(s:SV),ss[i]?=some s->SRep P D w ow μ st s (pack P E ((L.drop (i*P.cellsOf E)).take (P.cellsOf E))))->SRep P D w ow μ st (.lits E ss) (.slice (some ⟨b,off,none⟩) ss.length ss.length)
def ArrKeep(w:World)(ow:Own)(μ:Nat->Nat)(w':World)(t:Own)(z:Nat->Nat)(k:Nat)(E:TypeId):Prop:=
 ∀o,w.heap[μ k]?=some (.cells o E (0,0))->ow (μ k)=some k->z k=μ k/\t (μ k)=some k/\∃m,w'.heap[μ k]?=some (.cells m E (0,0))/\m.size=o.size
theorem ArrKeep.refl(w:World)(ow:Own)(μ:Nat->Nat)(k:Nat)(E:TypeId):ArrKeep w ow μ w ow μ k E:=λm h o=>⟨rfl,o,m,h,rfl⟩
theorem ArrKeep.trans{w0 H I:World}{ow0 m o:Own}{μ0 t z:Nat->Nat}{k:Nat}{E:TypeId}(h:ArrKeep w0 ow0 μ0 H m t k E)(M:ArrKeep H m t I o z k E):ArrKeep w0 ow0 μ0 I o z k E:=by intro G O U;obtain⟨W,Y,J,q1,q2⟩:=h G O U;obtain⟨X,Z,V,q3,q4⟩:=M J (by grind) (by grind);grind
structure Moves(D:Dom)(w:World)(ow:Own)(μ:Nat->Nat)(st:List BX)(D':Dom)(w':World)(ow':Own)(μ':Nat->Nat)(st':List BX):Prop where
 dom:∀x o,D x o->D' x o
 keeps:Keeps D w w'
 box:∀(k:Nat)(T:TypeId)(v:SV),st[k]?=some (.box T v)->μ' k=μ k/\∃v',st'[k]?=some (.box T v')
 map:∀(k:Nat)(K E:TypeId)(es:List (PV×PV)),st[k]?=some (.map K E es)->μ' k=μ k/\∃es',st'[k]?=some (.map K E es')
 obj:∀(k:Nat)(b:BX),st[k]?=some b->b.sort≠[]->μ' k=μ k/\∃b',st'[k]?=some b'/\b'.sort=b.sort
 arr:∀(k:Nat)(E:TypeId)(g:Nat)(xs:List PV),st[k]?=some (.arr E g xs)->∃g' xs',st'[k]?=some (.arr E g' xs')/\g<=g'/\(g'=g->xs'.length=xs.length/\ArrKeep w ow μ w' ow' μ' k E)
 acc:∀(k g:Nat),st[k]?=some (.acc g)->∃g',st'[k]?=some (.acc g')/\g<=g'/\
  (g'=g->∀b,ow b=some k->w'.heap[b]?=w.heap[b]?/\ow' b=some k/\∀o,D' b o->D b o)
theorem Moves.refl(D:Dom)(w:World)(ow:Own)(μ:Nat->Nat)(st:List BX):Moves D w ow μ st D w ow μ st:=
 ⟨λ_ _ h=>h,Keeps.refl _ _,λ_ _ _ h=>⟨rfl,_,h⟩,λ_ _ _ _ h=>⟨rfl,_,h⟩,λ_ _ h _=>⟨rfl,_,h,rfl⟩,λ_ _ _ _ h=>⟨_,_,h,Nat.le_refl _,λ_=>⟨rfl,ArrKeep.refl _ _ _ _ _⟩⟩,λ_ _ h=>⟨_,h,Nat.le_refl _,λ_ _ h=>⟨rfl,h,λ_ h=>h⟩⟩⟩
theorem Moves.trans{D W X:Dom}{w w1 w2:World}{ow z G:Own}{μ J M:Nat->Nat}{st H I:List BX}(h:Moves D w ow μ st W w1 z J H)(k:Moves W w1 z J H X w2 G M I):Moves D w ow μ st X w2 G M I:=by
 refine⟨λx o d=>k.dom x o (h.dom x o d),h.keeps.trans k.keeps h.dom,λj T v e=>?_,λj K E es e=>?_,λj b e hs=>?_,λj E g xs e=>?_,λj g e=>?_⟩
 ·obtain⟨q1,V,m⟩:=h.box j T v e;obtain⟨q2,v2,t⟩:=k.box j T V m;grind
 ·obtain⟨q1,V,m⟩:=h.map j K E es e;obtain⟨q2,v2,t⟩:=k.map j K E V m;grind
 ·obtain⟨q1,O,m,s1⟩:=h.obj j b e hs;obtain⟨q2,Y,t,s2⟩:=k.obj j O m (by grind);grind
 ·obtain⟨U,x1,m,l1,k1⟩:=h.arr j E g xs e;obtain⟨Z,x2,t,l2,k2⟩:=k.arr j E U x1 m;refine⟨Z,x2,t,Nat.le_trans l1 l2,λeq=>?_⟩;obtain⟨a1,a2⟩:=k1 (by omega);obtain⟨O,Y⟩:=k2 (by omega);exact⟨O.trans a1,a2.trans Y⟩
 ·obtain⟨U,m,l1,k1⟩:=h.acc j g e;obtain⟨Z,t,l2,k2⟩:=k.acc j U m;grind
theorem SRep.mono{P:Program}{D D':Dom}{w w':World}{ow ab:Own}{μ ad:Nat->Nat}{st st':List BX}{s:SV}{v:Value}(h:SRep P D w ow μ st s v)(m:Moves D w ow μ st D' w' ab ad st'):SRep P D' w' ab ad st' s v:=by
 induction h with
 |undef=>exact .undef
 |bool=>exact .bool
 |int=>exact .int
 |str=>exact .str
 |slice h=>exact .slice (h.mono m.dom m.keeps)
 |data Z h=>exact .data Z (h.mono m.dom m.keeps)
 |agg Z hl H hv _ X=>exact .agg Z hl H hv X
 |map h=>exact .map (h.mono m.dom m.keeps)
 |nils=>exact .nils
 |@acc k g g0 E xs v h t I H=>
  obtain⟨U,e',ae,O⟩:=m.acc k g0 t;refine .acc (h.mono m.dom m.keeps) e' (Nat.le_trans I ae) (λaf=>?_);have e0:g=g0:=by omega
  have W:U=g0:=by omega
  rcases H e0 with H|⟨b,off,cap,J,hv,hh,G,M,V,hb,hD⟩
  ·exact Or.inl H
  ·obtain⟨k1,k2,k3⟩:=O W b hb;exact Or.inr ⟨b,off,cap,J,hv,k1.trans hh,G,M,V,k2,λo H hd=>hD o H (k3 o hd)⟩
 |ref t hp=>obtain⟨e,v',z⟩:=m.box _ _ _ t;rw[<-e];exact .ref z hp
 |mref t=>obtain⟨e,v',z⟩:=m.map _ _ _ _ t;rw[<-e];exact .mref z
 |iref t=>obtain⟨e,b',z,O⟩:=m.obj _ _ t (by simp[BX.sort]);rw[<-e];cases b'<;>simp[BX.sort]at O;exact .iref z
 |bref t=>obtain⟨e,b',z,O⟩:=m.obj _ _ t (by simp[BX.sort]);rw[<-e];cases b'<;>simp[BX.sort]at O;exact .bref z
 |nx G M=>exact .nx G M
 |eif G M=>exact .eif G M
 |ifc _ X=>exact .ifc X
 |pto hh hr=>exact .pto (hh.mono m.dom m.keeps) (hr.mono m.dom m.keeps)
 |fn hn O _ X=>exact .fn hn O X
 |tup O _ X=>exact .tup O X
 |raw=>exact .raw
 |lit h=>exact .lit (h.mono m.dom m.keeps)
 |sln h=>exact .sln (h.mono m.dom m.keeps)
 |lits G M V _ X=>exact .lits G M (V.mono m.dom m.keeps) X
 |avwOld t I=>obtain⟨U,xs',G,M,_⟩:=m.arr _ _ _ _ t;exact .avwOld G (by omega)
 |@avw k g lo cap E xs J t ag hl aa hc H O=>
  obtain⟨U,xs',G,M,V⟩:=m.arr _ _ _ _ t;by_cases I:U=g
  ·obtain⟨h4,h5⟩:=V I;obtain⟨W,e2,Y,e3,e4⟩:=h5 J hc H;subst I;rw[<-h4,<-W];exact .avw G (by omega) (by omega) aa (by rw[W];exact e3) (by grind) (by omega)
  ·exact .avwOld G (by omega)
 |mitr t=>obtain⟨e,b',z,O⟩:=m.obj _ _ t (by simp[BX.sort]);rw[<-e];cases b'<;>simp[BX.sort]at O;obtain⟨rfl,rfl⟩:=O;exact .mitr z
 |eref t Z hi=>obtain⟨e,v',z⟩:=m.box _ _ _ t;rw[<-e];exact .eref z Z hi
 |asl t Z hi hc=>obtain⟨e,v',z⟩:=m.box _ _ _ t;rw[<-e];exact .asl z Z hi hc
 |arrOld t I H=>obtain⟨U,xs',G,M,_⟩:=m.arr _ _ _ _ t;exact .arrOld G (by omega) H
 |@arrNil k g E a t=>
  obtain⟨U,xs',G,M,V⟩:=m.arr _ _ _ _ t;by_cases I:U=g
  ·obtain⟨h4,_⟩:=V I;have:xs'=[]:=List.length_eq_zero_iff.1 h4;subst this;subst I;exact .arrNil G
  ·exact .arrOld G (by omega) rfl
 |@arr k g cap E xs J t hl aa hc H O=>
  obtain⟨U,xs',G,M,V⟩:=m.arr _ _ _ _ t;by_cases I:U=g
  ·obtain⟨h4,h5⟩:=V I;obtain⟨W,e2,Y,e3,e4⟩:=h5 J hc H;subst I;rw[<-h4,<-W];exact .arr G (by omega) aa (by rw[W];exact e3) (by grind) (by omega)
  ·exact .arrOld G (by omega) rfl
 |arefOld t I H=>obtain⟨U,xs',G,M,_⟩:=m.arr _ _ _ _ t;exact .arefOld G (by omega) H
 |@aref k g i off E T path xs J t hl hp hc H=>
  obtain⟨U,xs',G,M,V⟩:=m.arr _ _ _ _ t;by_cases I:U=g
  ·obtain⟨h4,h5⟩:=V I;obtain⟨W,e2,Y,e3,e4⟩:=h5 J hc H;subst I;rw[<-W];exact .aref G (by omega) hp (by rw[W];exact e3) (by grind)
  ·exact .arefOld G (by omega) rfl
def ofPV(P:Program)(T:TypeId)(v:PV):SV:=
 match P.underlying T with
 |some .bool=>.bool v.asBool
 |some (.int k)=>.int k v.asInt
 |some .string=>.str v.asStr
 |some (.slice E)=>.slice E v.asList
 |some (.struct _)=>.data T v
 |some (.array _ _)=>.data T v
 |some (.map K E)=>.map K E v.asMap
 |_=>.raw v.asRaw
theorem Rep.ofPV{P:Program}{D:Dom}{w:World}{ow:Own}{μ:Nat->Nat}{st:List BX}{T:TypeId}{v:PV}{cs:List Value}(h:Rep P D w T v cs):SRep P D w ow μ st (ofPV P T v) (pack P T cs):=by
 cases h with
 |bool m=>simp only[Ab.ofPV,m,pack,aah];exact .bool
 |int m=>simp only[Ab.ofPV,m,pack,aah];exact .int
 |str m=>simp only[Ab.ofPV,m,pack,aah];exact .str
 |nil m H=>simp only[Ab.ofPV,m,pack,aah];exact .slice (.nil H)
 |slice m t W z X=>simp only[Ab.ofPV,m,pack,aah];exact .slice (.mk t W z X)
 |agg m t G I z=>
  have o:aah P T=true:=by simp[aah,m]
  simp only[Ab.ofPV,m,pack,o,A8];exact .data o (.agg m t G I z)
 |arr m t G I z=>
  have o:aah P T=true:=by simp[aah,m]
  simp only[Ab.ofPV,m,pack,o,A8];exact .data o (.arr m t G I z)
 |mapnil m=>simp only[Ab.ofPV,m,pack,aah];exact .map .nil
 |map kc vc m J H M O U V=>simp only[Ab.ofPV,m,pack,aah];exact .map (.mk kc vc J H M O U V)
 |@raw T v h G=>
  have e:Ab.ofPV P T (.raw v)=.raw v:=by grind[rawT,Ab.ofPV,PV.asRaw]
  have o:aah P T=false:=by grind[rawT,aah]
  rw[e];simp only[pack,o];exact .raw
end Go.Ab
