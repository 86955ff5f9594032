/- Values of slots, and what it is that a value of the model is one. -/
import Derived.Test.YtodichgnoiaanaaGreatDoorAbTabs
set_option linter.unusedVariables false
set_option linter.unusedSimpArgs false
set_option linter.unnecessarySimpa false
namespace Go.Ab
open Go
inductive SV where
 | undef
 | bool (b:Bool)
 | int (k:IntKind) (n:Int)
 | str (s:Bo)
 | slice (E:TypeId) (xs:List PV)
 | data (T:TypeId) (v:PV)
 | agg (T:TypeId) (fs:List SV)
 | map (K E:TypeId) (es:List (PV×PV))
 | nils
 | acc (k g:Nat) (E:TypeId) (xs:List PV)
 | ref (k:Nat) (path:List Nat) (T:TypeId)
 | mref (k:Nat)
 | iref (k:Nat)
 | bref (k:Nat) (T:TypeId)
 | nx (b:Bool) (i c:Int)
 | eif (b:Bool)
 | pto (T:TypeId) (v:PV)
 | fn (f:FuncId) (n:Nat) (caps:List SV)
 | tup (vs:List SV)
 | raw (v:Value)
 | gd (t:Nat) (want:Bool) (v:SV)
 | lit (E:TypeId) (xs:List PV)
 | arr (k g:Nat) (E:TypeId)
 | aref (k g i:Nat) (E:TypeId) (path:List Nat) (T:TypeId)
 | eref (k i:Nat) (E:TypeId)
 | asl (k lo n:Nat) (E:TypeId)
 | ifc (T:TypeId) (s:SV)
 | pan (s:SV)
 | sln (E:TypeId) (xs:List PV)
 | mitr (k:Nat)
 | avw (k g lo:Nat) (E:TypeId)
 | lits (E:TypeId) (ss:List SV)
 deriving Inhabited
inductive BX where
 | box (T:TypeId) (v:SV)
 | acc (g:Nat)
 | map (K E:TypeId) (es:List (PV×PV))
 | iter (s:Bo) (p:Nat)
 | bld (T:TypeId) (bs:Bo)
 | arr (E:TypeId) (g:Nat) (xs:List PV)
 | mit (K E:TypeId) (c:Option (PV×PV)) (es:List (PV×PV))
 | hole
 deriving Inhabited
def BX.sort:BX->List Nat
 | .iter _ _=>[1]
 | .bld T _=>[2,T]
 | .mit K E _ _=>[3,K,E]
 | _=>[]
def BX.fix:BX->List Nat
 | .iter _ _=>[1]
 | .bld _ _=>[2]
 | .arr _ _ _=>[3]
 | .mit _ _ _ _=>[4]
 | _=>[]
abbrev Own:=Nat->Option Nat
def arrF (P:Program) (n:Nat) (E:TypeId):Option (Array Field):=
 match P.underlying E with
 | some (.slice _)=>bif Nat.ble n 8 then some ((List.range n).map λi=>{ name:= "",type:=E,offset:=i*P.cellsOf E,embedded:=false,tag:= "",pkgPath:= "",byteOffset:=0:Field }).toArray else none
 | _=>none
def aggF (P:Program) (T:TypeId):Option (Array Field):=
 match P.underlying T with
 | some (.struct h)=>some h
 | some (.array n E)=>arrF P n E
 | _=>none
theorem abd {P:Program}{T:TypeId}{o:Array Field} (h:P.underlying T=some (.struct o)):aggF P T=some o:=by simp only [aggF,h]
theorem ajy {P:Program}{n:Nat}{E:TypeId}{o:Array Field} (h:arrF P n E=some o):o.size=n/\∀ (i:Nat) (f:Field),o[i]?=some f->i<n/\f.type=E/\f.offset=i*P.cellsOf E:=by unfold arrF at h;grind
theorem ak4 {P:Program}{T:TypeId}{o:Array Field} (h:aggF P T=some o):P.underlying T=some (.struct o)\/∃ n E,P.underlying T=some (.array n E)/\arrF P n E=some o:=by grind [aggF]
theorem amy {P:Program}{T:TypeId}{o:Array Field} (h:aggF P T=some o):aaj P T=true:=by rcases ak4 h with h | ⟨n,E,h,_⟩<;>simp [aaj,h]
theorem Rep.ofAggF {P:Program}{D:Dom}{w:World}{T:TypeId}{h:Array Field}{H:List PV}{cs:List Value} (o:aggF P T=some h) (I:cs.length=P.cellsOf T) (J:∀ c,c∈cs->c.oneCell'=true) (Z:H.length=h.size)
 (O:∀ (i:Nat) (v:PV) (f:Field),H[i]?=some v->h[i]?=some f->Rep P D w f.type v ((cs.drop f.offset).take (P.cellsOf f.type))):Rep P D w T (.agg H) cs:=by
 rcases ak4 o with o | ⟨n,E,o,M⟩
 ·exact .agg o I J Z O
 ·obtain ⟨h1,h2⟩:=ajy M;refine .arr o I J (by omega) (λi v hi=>?_);have z:i<h.size:=by grind
  have hf:h[i]?=some h[i]:=Array.getElem?_eq_getElem z;grind
theorem Rep.aggF {P:Program}{D:Dom}{w:World}{T:TypeId}{z:Array Field}{v:PV}{cs:List Value} (h:Rep P D w T v cs) (H:Ab.aggF P T=some z):∃ I,v=.agg I/\cs.length=P.cellsOf T/\(∀ c,c∈cs->c.oneCell'=true)/\I.length=z.size/\
 ∀ (i:Nat) (v:PV) (f:Field),I[i]?=some v->z[i]?=some f->Rep P D w f.type v ((cs.drop f.offset).take (P.cellsOf f.type)):=by
 rcases ak4 H with H | ⟨n,E,H,J⟩
 ·cases h with
  | agg o M O hv Z=>grind
  | raw hr=>grind [rawT]
  | arr o=>grind
  | bool o=>grind
  | int o=>grind
  | str o=>grind
  | nil o=>grind
  | slice o=>grind
  | mapnil o=>grind
  | map _ _ o=>grind
 ·obtain ⟨h1,h2⟩:=ajy J;cases h with
  | arr o M O hv Z=>grind
  | raw hr=>grind [rawT]
  | agg o=>grind
  | bool o=>grind
  | int o=>grind
  | str o=>grind
  | nil o=>grind
  | slice o=>grind
  | mapnil o=>grind
  | map _ _ o=>grind
def ab2 (P:Program):TypeId->List Nat->Option (Nat×TypeId)
 | T,[]=>some (0,T)
 | T,i::p=>
  match aggF P T with
  | some h=>
   match h[i]? with
   | some f=>(ab2 P f.type p).map λ(o,t)=>(f.offset+o,t)
   | none=>none
  | none=>none
def BX.kind:BX->List Nat
 | .box T _=>[1,T]
 | .bld T _=>[2,T]
 | .arr E _ _=>[3,E]
 | .map K E _=>[4,K,E]
 | .iter _ _=>[5]
 | .acc _=>[6]
 | .hole=>[7]
 | .mit K E _ _=>[8,K,E]
inductive MapRep (P:Program) (D:Dom) (w:World) (K E:TypeId):List (PV×PV)->Value->Prop
 | nil:MapRep P D w K E [] (.map none)
 | mk {r clock:Nat}{ents:Array MapEntry}{es:List (PV×PV)} (kc vc:Nat->List Value):w.heap[r]?=some (.map ents clock)->D r 0->ents.size=es.length->
  (∀ (i:Nat) (x:PV×PV),es[i]?=some x->Rep P D w K x.1 (kc i))->(∀ (i:Nat) (x:PV×PV),es[i]?=some x->Rep P D w E x.2 (vc i))->
  ax0 P K E kc vc ents clock->MapRep P D w K E es (.map (some r))
theorem MapRep.mono {P:Program}{D D':Dom}{w w':World}{K E:TypeId}{es:List (PV×PV)}{v:Value} (h:MapRep P D w K E es v) (z:∀ x o,D x o->D' x o) (H:Keeps D w w'):MapRep P D' w' K E es v:=by
 cases h with
 | nil=>exact .nil
 | mk kc vc Z I hs J M O=>exact .mk kc vc (H.map _ _ I _ _ Z) (z _ _ I) hs (λi x a=>(J i x a).mono z H) (λi x a=>(M i x a).mono z H) O
def bc8 (P:Program) (D:Dom) (w:World) (ow:Own) (k:Nat) (E:TypeId) (n:Nat) (v:Value):Prop:=
 (∃ a,v=.slice a 0 0)\/∃ g off cap cur,v=.slice (some ⟨g,off,none⟩) n cap/\w.heap[g]?=some (.cells cur E (0,0))/\n<=cap/\cap<=maxLen/\cur.size=off+cap*P.cellsOf E/\ow g=some k/\
  ∀ o,off+n*P.cellsOf E<=o->¬D g o
inductive SRep (P:Program) (D:Dom) (w:World) (ow:Own) (μ:Nat->Nat) (st:List BX):SV->Value->Prop
 | undef {v:Value}:SRep P D w ow μ st .undef v
 | bool {b:Bool}:SRep P D w ow μ st (.bool b) (.bool b)
 | int {k:IntKind}{n:Int}:SRep P D w ow μ st (.int k n) (.int k n)
 | str {s:Bo}:SRep P D w ow μ st (.str s) (.string ⟨s.toArray⟩)
 | slice {E:TypeId}{xs:List PV}{v:Value}:SliceRep P D w E xs v->SRep P D w ow μ st (.slice E xs) v
 | data {T:TypeId}{v:PV}{cs:List Value}:aaj P T=true->Rep P D w T v cs->SRep P D w ow μ st (.data T v) (.agg cs.toArray)
 | agg {T:TypeId}{fs:Array Field}{vs:List SV}{cs:List Value}:aggF P T=some fs->cs.length=P.cellsOf T->(∀ c,c∈cs->c.oneCell'=true)->vs.length=fs.size->
  (∀ (i:Nat) (v:SV) (f:Field),vs[i]?=some v->fs[i]?=some f->SRep P D w ow μ st v (pack P f.type ((cs.drop f.offset).take (P.cellsOf f.type))))->SRep P D w ow μ st (.agg T vs) (.agg cs.toArray)
 | map {K E:TypeId}{es:List (PV×PV)}{v:Value}:MapRep P D w K E es v->SRep P D w ow μ st (.map K E es) v
 | nils:SRep P D w ow μ st .nils (.slice none 0 0)
 | acc {k g g0:Nat}{E:TypeId}{xs:List PV}{v:Value}:SliceRep P D w E xs v->st[k]?=some (.acc g0)->g<=g0->(g=g0->bc8 P D w ow k E xs.length v)->SRep P D w ow μ st (.acc k g E xs) v
 | ref {k:Nat}{path:List Nat}{T TB:TypeId}{v:SV}{off:Nat}:st[k]?=some (.box TB v)->ab2 P TB path=some (off,T)->SRep P D w ow μ st (.ref k path T) (.pointer (some ⟨μ k,off,none⟩))
 | mref {k:Nat}{K E:TypeId}{es:List (PV×PV)}:st[k]?=some (.map K E es)->SRep P D w ow μ st (.mref k) (.map (some (μ k)))
 | iref {k p:Nat}{s:Bo}:st[k]?=some (.iter s p)->SRep P D w ow μ st (.iref k) (.pointer (some ⟨μ k,0,none⟩))
 | bref {k:Nat}{T TB:TypeId}{bs:Bo}:st[k]?=some (.bld TB bs)->SRep P D w ow μ st (.bref k T) (.pointer (some ⟨μ k,0,none⟩))
 | nx {b:Bool}{i c:Int}{v:Value}:(b=true->v=.tuple #[.bool true,.int .i64 i,.int .i32 c])->(b=false->v=.tuple #[.bool false])->SRep P D w ow μ st (.nx b i c) v
 | eif {b:Bool}{v:Value}:(b=true->v=.nilIface)->(b=false->∃ t u,v=.iface t u)->SRep P D w ow μ st (.eif b) v
 | pto {T:TypeId}{v:PV}{b off:Nat}{cs:List Value}:Held D w b off cs->Rep P D w T v cs->SRep P D w ow μ st (.pto T v) (.pointer (some ⟨b,off,none⟩))
 | fn {f:FuncId}{n:Nat}{caps:List SV}{us vs:Array Value}:us.size=n->(us++vs).size=caps.length->(∀ (i:Nat) (s:SV) (v:Value),caps[i]?=some s->(us++vs)[i]?=some v->SRep P D w ow μ st s v)->SRep P D w ow μ st (.fn f n caps) (.func (.func f) us vs)
 | tup {ss:List SV}{vs:Array Value}:vs.size=ss.length->(∀ (i:Nat) (s:SV) (v:Value),ss[i]?=some s->vs[i]?=some v->SRep P D w ow μ st s v)->SRep P D w ow μ st (.tup ss) (.tuple vs)
 | raw {v:Value}:SRep P D w ow μ st (.raw v) v
 | lit {E:TypeId}{xs:List PV}{a:Addr}:SliceRep P D w E xs (.slice (some a) xs.length xs.length)->SRep P D w ow μ st (.lit E xs) (.slice (some a) xs.length xs.length)
 | arrOld {k g g0:Nat}{E E':TypeId}{xs:List PV}{v:Value}:st[k]?=some (.arr E' g0 xs)->g<g0->v.oneCell'=true->SRep P D w ow μ st (.arr k g E) v
 | arrNil {k g:Nat}{E:TypeId}{a:Option Addr}:st[k]?=some (.arr E g [])->SRep P D w ow μ st (.arr k g E) (.slice a 0 0)
 | arr {k g cap:Nat}{E:TypeId}{xs:List PV}{cur:Array Value}:st[k]?=some (.arr E g xs)->xs.length<=cap->cap<=maxLen->w.heap[μ k]?=some (.cells cur E (0,0))->ow (μ k)=some k->cap*P.cellsOf E=cur.size->SRep P D w ow μ st (.arr k g E) (.slice (some ⟨μ k,0,none⟩) xs.length cap)
 | arefOld {k g g0 i:Nat}{E E' T:TypeId}{path:List Nat}{xs:List PV}{v:Value}:st[k]?=some (.arr E' g0 xs)->g<g0->v.oneCell'=true->SRep P D w ow μ st (.aref k g i E path T) v
 | aref {k g i off:Nat}{E T:TypeId}{path:List Nat}{xs:List PV}{cur:Array Value}:st[k]?=some (.arr E g xs)->i<xs.length->ab2 P E path=some (off,T)->w.heap[μ k]?=some (.cells cur E (0,0))->ow (μ k)=some k->SRep P D w ow μ st (.aref k g i E path T) (.pointer (some ⟨μ k,i*P.cellsOf E+off,none⟩))
 | eref {k i n:Nat}{E TB:TypeId}{v:SV}:st[k]?=some (.box TB v)->P.underlying TB=some (.array n E)->i<n->SRep P D w ow μ st (.eref k i E) (.pointer (some ⟨μ k,i*P.cellsOf E,none⟩))
 | asl {k lo n m cap:Nat}{E TB:TypeId}{v:SV}:st[k]?=some (.box TB v)->P.underlying TB=some (.array m E)->lo+n<=m->n<=cap->SRep P D w ow μ st (.asl k lo n E) (.slice (some ⟨μ k,lo*P.cellsOf E,none⟩) n cap)
 | ifc {T:TypeId}{s:SV}{u:Value}:SRep P D w ow μ st s u->SRep P D w ow μ st (.ifc T s) (.iface T u)
 | mitr {k:Nat}{K E:TypeId}{c:Option (PV×PV)}{es:List (PV×PV)}:st[k]?=some (.mit K E c es)->SRep P D w ow μ st (.mitr k) (.pointer (some ⟨μ k,0,none⟩))
 | sln {E:TypeId}{xs:List PV}{a:Addr}{n c:Nat}:SliceRep P D w E xs (.slice (some a) n c)->SRep P D w ow μ st (.sln E xs) (.slice (some a) n c)
 | avwOld {k g g0 lo:Nat}{E E':TypeId}{xs:List PV}{v:Value}:st[k]?=some (.arr E' g0 xs)->g<g0->SRep P D w ow μ st (.avw k g lo E) v
 | avw {k g lo cap:Nat}{E:TypeId}{xs:List PV}{cur:Array Value}:st[k]?=some (.arr E g xs)->lo<xs.length->xs.length<=cap->cap<=maxLen->w.heap[μ k]?=some (.cells cur E (0,0))->ow (μ k)=some k->cap*P.cellsOf E=cur.size->SRep P D w ow μ st (.avw k g lo E) (.slice (some ⟨μ k,lo*P.cellsOf E,none⟩) (xs.length-lo) (cap-lo))
 | lits {E:TypeId}{ss:List SV}{b off:Nat}{L:List Value}:L.length=ss.length*P.cellsOf E->(∀ c,c∈L->c.oneCell'=true)->Held D w b off L->(∀ (i:Nat) (s:SV),ss[i]?=some s->SRep P D w ow μ st s (pack P E ((L.drop (i*P.cellsOf E)).take (P.cellsOf E))))->SRep P D w ow μ st (.lits E ss) (.slice (some ⟨b,off,none⟩) ss.length ss.length)
def ArrKeep (w:World) (ow:Own) (μ:Nat->Nat) (w':World) (h:Own) (o:Nat->Nat) (k:Nat) (E:TypeId):Prop:=
 ∀ cur,w.heap[μ k]?=some (.cells cur E (0,0))->ow (μ k)=some k->o k=μ k/\h (μ k)=some k/\∃ cur',w'.heap[μ k]?=some (.cells cur' E (0,0))/\cur'.size=cur.size
theorem ArrKeep.refl (w:World) (ow:Own) (μ:Nat->Nat) (k:Nat) (E:TypeId):ArrKeep w ow μ w ow μ k E:=λcur h o=>⟨rfl,o,cur,h,rfl⟩
theorem ArrKeep.trans {w0 J M:World}{ow0 o z:Own}{μ0 H I:Nat->Nat}{k:Nat}{E:TypeId} (h:ArrKeep w0 ow0 μ0 J o H k E) (Z:ArrKeep J o H M z I k E):ArrKeep w0 ow0 μ0 M z I k E:=by intro cur hc ho;obtain ⟨e1,o1,O,q1,q2⟩:=h cur hc ho;obtain ⟨e2,o2,c2,q3,q4⟩:=Z O (by grind) (by grind);grind
structure Moves (D:Dom) (w:World) (ow:Own) (μ:Nat->Nat) (st:List BX) (D':Dom) (w':World) (ow':Own) (μ':Nat->Nat) (st':List BX):Prop where
 dom:∀ x o,D x o->D' x o
 keeps:Keeps D w w'
 box:∀ (k:Nat) (T:TypeId) (v:SV),st[k]?=some (.box T v)->μ' k=μ k/\∃ v',st'[k]?=some (.box T v')
 map:∀ (k:Nat) (K E:TypeId) (es:List (PV×PV)),st[k]?=some (.map K E es)->μ' k=μ k/\∃ es',st'[k]?=some (.map K E es')
 obj:∀ (k:Nat) (b:BX),st[k]?=some b->b.sort≠[]->μ' k=μ k/\∃ b',st'[k]?=some b'/\b'.sort=b.sort
 arr:∀ (k:Nat) (E:TypeId) (g:Nat) (xs:List PV),st[k]?=some (.arr E g xs)->∃ g' xs',st'[k]?=some (.arr E g' xs')/\g<=g'/\(g'=g->xs'.length=xs.length/\ArrKeep w ow μ w' ow' μ' k E)
 acc:∀ (k g:Nat),st[k]?=some (.acc g)->∃ g',st'[k]?=some (.acc g')/\g<=g'/\
  (g'=g->∀ b,ow b=some k->w'.heap[b]?=w.heap[b]?/\ow' b=some k/\∀ o,D' b o->D b o)
theorem Moves.refl (D:Dom) (w:World) (ow:Own) (μ:Nat->Nat) (st:List BX):Moves D w ow μ st D w ow μ st:=
 ⟨λ_ _ h=>h,Keeps.refl _ _,λ_ _ _ h=>⟨rfl,_,h⟩,λ_ _ _ _ h=>⟨rfl,_,h⟩,λ_ _ h _=>⟨rfl,_,h,rfl⟩,λ_ _ _ _ h=>⟨_,_,h,Nat.le_refl _,λ_=>⟨rfl,ArrKeep.refl _ _ _ _ _⟩⟩,λ_ _ h=>⟨_,h,Nat.le_refl _,λ_ _ h=>⟨rfl,h,λ_ h=>h⟩⟩⟩
theorem Moves.trans {D D1 D2:Dom}{w w1 w2:World}{ow I J:Own}{μ Z aa:Nat->Nat}{st M O:List BX} (h:Moves D w ow μ st D1 w1 I Z M) (k:Moves D1 w1 I Z M D2 w2 J aa O):Moves D w ow μ st D2 w2 J aa O:=by
 refine ⟨λx o d=>k.dom x o (h.dom x o d),h.keeps.trans k.keeps h.dom,λj T v e=>?_,λj K E es e=>?_,λj b e hs=>?_,λj E g xs e=>?_,λj g e=>?_⟩
 ·obtain ⟨q1,v1,z⟩:=h.box j T v e;obtain ⟨q2,v2,H⟩:=k.box j T v1 z;grind
 ·obtain ⟨q1,v1,z⟩:=h.map j K E es e;obtain ⟨q2,v2,H⟩:=k.map j K E v1 z;grind
 ·obtain ⟨q1,b1,z,s1⟩:=h.obj j b e hs;obtain ⟨q2,b2,H,s2⟩:=k.obj j b1 z (by grind);grind
 ·obtain ⟨g1,x1,z,l1,k1⟩:=h.arr j E g xs e;obtain ⟨g2,x2,H,l2,k2⟩:=k.arr j E g1 x1 z;refine ⟨g2,x2,H,Nat.le_trans l1 l2,λeq=>?_⟩;obtain ⟨a1,a2⟩:=k1 (by omega);obtain ⟨b1,b2⟩:=k2 (by omega);exact ⟨b1.trans a1,a2.trans b2⟩
 ·obtain ⟨g1,z,l1,k1⟩:=h.acc j g e;obtain ⟨g2,H,l2,k2⟩:=k.acc j g1 z;grind
theorem SRep.mono {P:Program}{D D':Dom}{w w':World}{ow ab:Own}{μ ad:Nat->Nat}{st st':List BX}{s:SV}{v:Value} (h:SRep P D w ow μ st s v) (m:Moves D w ow μ st D' w' ab ad st'):SRep P D' w' ab ad st' s v:=by
 induction h with
 | undef=>exact .undef
 | bool=>exact .bool
 | int=>exact .int
 | str=>exact .str
 | slice h=>exact .slice (h.mono m.dom m.keeps)
 | data hT h=>exact .data hT (h.mono m.dom m.keeps)
 | agg hT hl J hv _ ih=>exact .agg hT hl J hv ih
 | map h=>exact .map (h.mono m.dom m.keeps)
 | nils=>exact .nils
 | @acc k g g0 E xs v h z M J=>
  obtain ⟨g',e',ae,Z⟩:=m.acc k g0 z;refine .acc (h.mono m.dom m.keeps) e' (Nat.le_trans M ae) (λaf=>?_);have e0:g=g0:=by omega
  have e1:g'=g0:=by omega
  rcases J e0 with J | ⟨b,off,cap,cur,hv,hh,I,O,h3,hb,hD⟩
  ·exact Or.inl J
  ·obtain ⟨k1,k2,k3⟩:=Z e1 b hb;exact Or.inr ⟨b,off,cap,cur,hv,k1.trans hh,I,O,h3,k2,λo J hd=>hD o J (k3 o hd)⟩
 | ref z hp=>obtain ⟨e,v',H⟩:=m.box _ _ _ z;rw [<-e];exact .ref H hp
 | mref z=>obtain ⟨e,v',H⟩:=m.map _ _ _ _ z;rw [<-e];exact .mref H
 | iref z=>obtain ⟨e,b',H,Z⟩:=m.obj _ _ z (by simp [BX.sort]);rw [<-e];cases b'<;>simp [BX.sort] at Z;exact .iref H
 | bref z=>obtain ⟨e,b',H,Z⟩:=m.obj _ _ z (by simp [BX.sort]);rw [<-e];cases b'<;>simp [BX.sort] at Z;exact .bref H
 | nx I O=>exact .nx I O
 | eif I O=>exact .eif I O
 | ifc _ ih=>exact .ifc ih
 | pto hh hr=>exact .pto (hh.mono m.dom m.keeps) (hr.mono m.dom m.keeps)
 | fn hn Z _ ih=>exact .fn hn Z ih
 | tup Z _ ih=>exact .tup Z ih
 | raw=>exact .raw
 | lit h=>exact .lit (h.mono m.dom m.keeps)
 | sln h=>exact .sln (h.mono m.dom m.keeps)
 | lits I O h3 _ ih=>exact .lits I O (h3.mono m.dom m.keeps) ih
 | avwOld z M=>obtain ⟨g',xs',I,O,_⟩:=m.arr _ _ _ _ z;exact .avwOld I (by omega)
 | @avw k g lo cap E xs cur z ag hl aa hc J Z=>
  obtain ⟨g',xs',I,O,h3⟩:=m.arr _ _ _ _ z;by_cases M:g'=g
  ·obtain ⟨h4,h5⟩:=h3 M;obtain ⟨e1,e2,cur',e3,e4⟩:=h5 cur hc J;subst M;rw [<-h4,<-e1];exact .avw I (by omega) (by omega) aa (by rw [e1];exact e3) (by grind) (by omega)
  ·exact .avwOld I (by omega)
 | mitr z=>obtain ⟨e,b',H,Z⟩:=m.obj _ _ z (by simp [BX.sort]);rw [<-e];cases b'<;>simp [BX.sort] at Z;obtain ⟨rfl,rfl⟩:=Z;exact .mitr H
 | eref z hT hi=>obtain ⟨e,v',H⟩:=m.box _ _ _ z;rw [<-e];exact .eref H hT hi
 | asl z hT hi hc=>obtain ⟨e,v',H⟩:=m.box _ _ _ z;rw [<-e];exact .asl H hT hi hc
 | arrOld z M J=>obtain ⟨g',xs',I,O,_⟩:=m.arr _ _ _ _ z;exact .arrOld I (by omega) J
 | @arrNil k g E a z=>
  obtain ⟨g',xs',I,O,h3⟩:=m.arr _ _ _ _ z;by_cases M:g'=g
  ·obtain ⟨h4,_⟩:=h3 M;have:xs'=[]:=List.length_eq_zero_iff.1 h4;subst this;subst M;exact .arrNil I
  ·exact .arrOld I (by omega) rfl
 | @arr k g cap E xs cur z hl aa hc J Z=>
  obtain ⟨g',xs',I,O,h3⟩:=m.arr _ _ _ _ z;by_cases M:g'=g
  ·obtain ⟨h4,h5⟩:=h3 M;obtain ⟨e1,e2,cur',e3,e4⟩:=h5 cur hc J;subst M;rw [<-h4,<-e1];exact .arr I (by omega) aa (by rw [e1];exact e3) (by grind) (by omega)
  ·exact .arrOld I (by omega) rfl
 | arefOld z M J=>obtain ⟨g',xs',I,O,_⟩:=m.arr _ _ _ _ z;exact .arefOld I (by omega) J
 | @aref k g i off E T path xs cur z hl hp hc J=>
  obtain ⟨g',xs',I,O,h3⟩:=m.arr _ _ _ _ z;by_cases M:g'=g
  ·obtain ⟨h4,h5⟩:=h3 M;obtain ⟨e1,e2,cur',e3,e4⟩:=h5 cur hc J;subst M;rw [<-e1];exact .aref I (by omega) hp (by rw [e1];exact e3) (by grind)
  ·exact .arefOld I (by omega) rfl
def ofPV (P:Program) (T:TypeId) (v:PV):SV:=
 match P.underlying T with
 | some .bool=>.bool v.asBool
 | some (.int k)=>.int k v.asInt
 | some .string=>.str v.asStr
 | some (.slice E)=>.slice E v.asList
 | some (.struct _)=>.data T v
 | some (.array _ _)=>.data T v
 | some (.map K E)=>.map K E v.asMap
 | _=>.raw v.asRaw
theorem Rep.ofPV {P:Program}{D:Dom}{w:World}{ow:Own}{μ:Nat->Nat}{st:List BX}{T:TypeId}{v:PV}{cs:List Value} (h:Rep P D w T v cs):SRep P D w ow μ st (ofPV P T v) (pack P T cs):=by
 cases h with
 | bool o=>simp only [Ab.ofPV,o,pack,aaj];exact .bool
 | int o=>simp only [Ab.ofPV,o,pack,aaj];exact .int
 | str o=>simp only [Ab.ofPV,o,pack,aaj];exact .str
 | nil o M=>simp only [Ab.ofPV,o,pack,aaj];exact .slice (.nil M)
 | slice o H hL I hc=>simp only [Ab.ofPV,o,pack,aaj];exact .slice (.mk H hL I hc)
 | agg o H J O I=>
  have z:aaj P T=true:=by simp [aaj,o]
  simp only [Ab.ofPV,o,pack,z,A9];exact .data z (.agg o H J O I)
 | arr o H J O I=>
  have z:aaj P T=true:=by simp [aaj,o]
  simp only [Ab.ofPV,o,pack,z,A9];exact .data z (.arr o H J O I)
 | mapnil o=>simp only [Ab.ofPV,o,pack,aaj];exact .map .nil
 | map kc vc o Z M h3 h4 h5 h6=>simp only [Ab.ofPV,o,pack,aaj];exact .map (.mk kc vc Z M h3 h4 h5 h6)
 | @raw T v h J=>
  have e:Ab.ofPV P T (.raw v)=.raw v:=by grind [rawT,Ab.ofPV,PV.asRaw]
  have z:aaj P T=false:=by grind [rawT,aaj]
  rw [e];simp only [pack,z];exact .raw
end Go.Ab
