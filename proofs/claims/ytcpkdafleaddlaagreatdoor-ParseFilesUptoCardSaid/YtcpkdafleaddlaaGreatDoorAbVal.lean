/- Values of slots, and what it is that a value of the model is one. -/
import Derived.Test.YtcpkdafleaddlaaGreatDoorAbTabs
set_option linter.unusedVariables false
set_option linter.unusedSimpArgs false
set_option linter.unnecessarySimpa false
namespace Go.Ab
open Go
inductive SV where
 | undef
 | bool (b:Bool)
 | int (k:IntKind) (n:Int)
 | str (s:Bq)
 | slice (E:TypeId) (xs:List PV)
 | data (T:TypeId) (v:PV)
 | agg (T:TypeId) (fs:List SV)
 | map (K E:TypeId) (es:List (PV×PV))
 | nils
 | acc (k g:Nat) (E:TypeId) (xs:List PV)
 | ref (k:Nat) (path:List Nat) (T:TypeId)
 | mref (k:Nat)
 | iref (k:Nat)
 | bref (k:Nat) (T:TypeId)
 | nx (b:Bool) (i c:Int)
 | eif (b:Bool)
 | pto (T:TypeId) (v:PV)
 | fn (f:FuncId) (n:Nat) (caps:List SV)
 | tup (vs:List SV)
 | raw (v:Value)
 | gd (t:Nat) (want:Bool) (v:SV)
 | lit (E:TypeId) (xs:List PV)
 | arr (k g:Nat) (E:TypeId)
 | aref (k g i:Nat) (E:TypeId) (path:List Nat) (T:TypeId)
 | eref (k i:Nat) (E:TypeId)
 | asl (k lo n:Nat) (E:TypeId)
 | ifc (T:TypeId) (s:SV)
 | pan (s:SV)
 deriving Inhabited
inductive BX where
 | box (T:TypeId) (v:SV)
 | acc (g:Nat)
 | map (K E:TypeId) (es:List (PV×PV))
 | iter (s:Bq) (p:Nat)
 | bld (T:TypeId) (bs:Bq)
 | arr (E:TypeId) (g:Nat) (xs:List PV)
 | hole
 deriving Inhabited
def BX.sort:BX->List Nat
 | .iter _ _=>[1]
 | .bld T _=>[2,T]
 | _=>[]
def BX.fix:BX->List Nat
 | .iter _ _=>[1]
 | .bld _ _=>[2]
 | .arr _ _ _=>[3]
 | _=>[]
abbrev Own:=Nat->Option Nat
def ab6 (P:Program):TypeId->List Nat->Option (Nat×TypeId)
 | T,[]=>some (0,T)
 | T,i::p=>
  match P.underlying T with
  | some (.struct fs)=>
   match fs[i]? with
   | some f=>(ab6 P f.type p).map λ(o,t)=>(f.offset+o,t)
   | none=>none
  | _=>none
def BX.kind:BX->List Nat
 | .box T _=>[1,T]
 | .bld T _=>[2,T]
 | .arr E _ _=>[3,E]
 | .map K E _=>[4,K,E]
 | .iter _ _=>[5]
 | .acc _=>[6]
 | .hole=>[7]
inductive MapRep (P:Program) (D:Dom) (w:World) (K E:TypeId):List (PV×PV)->Value->Prop
 | nil:MapRep P D w K E [] (.map none)
 | mk {r clock:Nat}{ents:Array MapEntry}{es:List (PV×PV)} (kc vc:Nat->List Value):w.heap[r]?=some (.map ents clock)->D r 0->ents.size=es.length->
  (∀ (i:Nat) (x:PV×PV),es[i]?=some x->Rep P D w K x.1 (kc i))->(∀ (i:Nat) (x:PV×PV),es[i]?=some x->Rep P D w E x.2 (vc i))->
  (∀ (i:Nat) (e:MapEntry),ents[i]?=some e->e.key=pack P K (kc i)/\e.val=pack P E (vc i))->MapRep P D w K E es (.map (some r))
theorem MapRep.mono {P:Program}{D D':Dom}{w w':World}{K E:TypeId}{es:List (PV×PV)}{v:Value} (h:MapRep P D w K E es v) (d:∀ x o,D x o->D' x o) (m:Keeps D w w'):MapRep P D' w' K E es v:=by
 cases h with
 | nil=>exact .nil
 | mk kc vc U z V H M O=>exact .mk kc vc (m.map _ _ z _ _ U) (d _ _ z) V (λi x a=>(H i x a).mono d m) (λi x a=>(M i x a).mono d m) O
def bdn (P:Program) (D:Dom) (w:World) (ow:Own) (k:Nat) (E:TypeId) (n:Nat) (v:Value):Prop:=
 v=.slice none 0 0\/∃ g cap d,v=.slice (some ⟨g,0,none⟩) n cap/\w.heap[g]?=some (.cells d E (0,0))/\n<=cap/\cap<=maxLen/\d.size=cap*P.cellsOf E/\ow g=some k/\
  ∀ o,n*P.cellsOf E<=o->¬D g o
inductive SRep (P:Program) (D:Dom) (w:World) (ow:Own) (μ:Nat->Nat) (st:List BX):SV->Value->Prop
 | undef {v:Value}:SRep P D w ow μ st .undef v
 | bool {b:Bool}:SRep P D w ow μ st (.bool b) (.bool b)
 | int {k:IntKind}{n:Int}:SRep P D w ow μ st (.int k n) (.int k n)
 | str {s:Bq}:SRep P D w ow μ st (.str s) (.string ⟨s.toArray⟩)
 | slice {E:TypeId}{xs:List PV}{v:Value}:SliceRep P D w E xs v->SRep P D w ow μ st (.slice E xs) v
 | data {T:TypeId}{v:PV}{cs:List Value}:aak P T=true->Rep P D w T v cs->SRep P D w ow μ st (.data T v) (.agg cs.toArray)
 | agg {T:TypeId}{fs:Array Field}{vs:List SV}{cs:List Value}:P.underlying T=some (.struct fs)->cs.length=P.cellsOf T->(∀ c,c∈cs->c.oneCell'=true)->vs.length=fs.size->
  (∀ (i:Nat) (v:SV) (f:Field),vs[i]?=some v->fs[i]?=some f->SRep P D w ow μ st v (pack P f.type ((cs.drop f.offset).take (P.cellsOf f.type))))->SRep P D w ow μ st (.agg T vs) (.agg cs.toArray)
 | map {K E:TypeId}{es:List (PV×PV)}{v:Value}:MapRep P D w K E es v->SRep P D w ow μ st (.map K E es) v
 | nils:SRep P D w ow μ st .nils (.slice none 0 0)
 | acc {k g g0:Nat}{E:TypeId}{xs:List PV}{v:Value}:SliceRep P D w E xs v->st[k]?=some (.acc g0)->g<=g0->(g=g0->bdn P D w ow k E xs.length v)->SRep P D w ow μ st (.acc k g E xs) v
 | ref {k:Nat}{path:List Nat}{T TB:TypeId}{v:SV}{off:Nat}:st[k]?=some (.box TB v)->ab6 P TB path=some (off,T)->SRep P D w ow μ st (.ref k path T) (.pointer (some ⟨μ k,off,none⟩))
 | mref {k:Nat}{K E:TypeId}{es:List (PV×PV)}:st[k]?=some (.map K E es)->SRep P D w ow μ st (.mref k) (.map (some (μ k)))
 | iref {k p:Nat}{s:Bq}:st[k]?=some (.iter s p)->SRep P D w ow μ st (.iref k) (.pointer (some ⟨μ k,0,none⟩))
 | bref {k:Nat}{T TB:TypeId}{bs:Bq}:st[k]?=some (.bld TB bs)->SRep P D w ow μ st (.bref k T) (.pointer (some ⟨μ k,0,none⟩))
 | nx {b:Bool}{i c:Int}{v:Value}:(b=true->v=.tuple #[.bool true,.int .i64 i,.int .i32 c])->(b=false->v=.tuple #[.bool false])->SRep P D w ow μ st (.nx b i c) v
 | eif {b:Bool}{v:Value}:(b=true->v=.nilIface)->(b=false->∃ t u,v=.iface t u)->SRep P D w ow μ st (.eif b) v
 | pto {T:TypeId}{v:PV}{b off:Nat}{cs:List Value}:Held D w b off cs->Rep P D w T v cs->SRep P D w ow μ st (.pto T v) (.pointer (some ⟨b,off,none⟩))
 | fn {f:FuncId}{n:Nat}{caps:List SV}{us vs:Array Value}:us.size=n->(us++vs).size=caps.length->(∀ (i:Nat) (s:SV) (v:Value),caps[i]?=some s->(us++vs)[i]?=some v->SRep P D w ow μ st s v)->SRep P D w ow μ st (.fn f n caps) (.func (.func f) us vs)
 | tup {ss:List SV}{vs:Array Value}:vs.size=ss.length->(∀ (i:Nat) (s:SV) (v:Value),ss[i]?=some s->vs[i]?=some v->SRep P D w ow μ st s v)->SRep P D w ow μ st (.tup ss) (.tuple vs)
 | raw {v:Value}:SRep P D w ow μ st (.raw v) v
 | lit {E:TypeId}{xs:List PV}{a:Addr}:SliceRep P D w E xs (.slice (some a) xs.length xs.length)->SRep P D w ow μ st (.lit E xs) (.slice (some a) xs.length xs.length)
 | arrOld {k g g0:Nat}{E E':TypeId}{xs:List PV}{v:Value}:st[k]?=some (.arr E' g0 xs)->g<g0->v.oneCell'=true->SRep P D w ow μ st (.arr k g E) v
 | arrNil {k g:Nat}{E:TypeId}{a:Option Addr}:st[k]?=some (.arr E g [])->SRep P D w ow μ st (.arr k g E) (.slice a 0 0)
 | arr {k g cap:Nat}{E:TypeId}{xs:List PV}{cur:Array Value}:st[k]?=some (.arr E g xs)->xs.length<=cap->cap<=maxLen->w.heap[μ k]?=some (.cells cur E (0,0))->ow (μ k)=some k->cap*P.cellsOf E=cur.size->SRep P D w ow μ st (.arr k g E) (.slice (some ⟨μ k,0,none⟩) xs.length cap)
 | arefOld {k g g0 i:Nat}{E E' T:TypeId}{path:List Nat}{xs:List PV}{v:Value}:st[k]?=some (.arr E' g0 xs)->g<g0->v.oneCell'=true->SRep P D w ow μ st (.aref k g i E path T) v
 | aref {k g i off:Nat}{E T:TypeId}{path:List Nat}{xs:List PV}{cur:Array Value}:st[k]?=some (.arr E g xs)->i<xs.length->ab6 P E path=some (off,T)->w.heap[μ k]?=some (.cells cur E (0,0))->ow (μ k)=some k->SRep P D w ow μ st (.aref k g i E path T) (.pointer (some ⟨μ k,i*P.cellsOf E+off,none⟩))
 | eref {k i n:Nat}{E TB:TypeId}{v:SV}:st[k]?=some (.box TB v)->P.underlying TB=some (.array n E)->i<n->SRep P D w ow μ st (.eref k i E) (.pointer (some ⟨μ k,i*P.cellsOf E,none⟩))
 | asl {k lo n m cap:Nat}{E TB:TypeId}{v:SV}:st[k]?=some (.box TB v)->P.underlying TB=some (.array m E)->lo+n<=m->n<=cap->SRep P D w ow μ st (.asl k lo n E) (.slice (some ⟨μ k,lo*P.cellsOf E,none⟩) n cap)
 | ifc {T:TypeId}{s:SV}{u:Value}:SRep P D w ow μ st s u->SRep P D w ow μ st (.ifc T s) (.iface T u)
def ArrKeep (w:World) (ow:Own) (μ:Nat->Nat) (w':World) (o:Own) (z:Nat->Nat) (k:Nat) (E:TypeId):Prop:=
 ∀ m,w.heap[μ k]?=some (.cells m E (0,0))->ow (μ k)=some k->z k=μ k/\o (μ k)=some k/\∃ d,w'.heap[μ k]?=some (.cells d E (0,0))/\d.size=m.size
theorem ArrKeep.refl (w:World) (ow:Own) (μ:Nat->Nat) (k:Nat) (E:TypeId):ArrKeep w ow μ w ow μ k E:=λd h m=>⟨rfl,m,d,h,rfl⟩
theorem ArrKeep.trans {w0 M O:World}{ow0 d m:Own}{μ0 o z:Nat->Nat}{k:Nat}{E:TypeId} (h:ArrKeep w0 ow0 μ0 M d o k E) (V:ArrKeep M d o O m z k E):ArrKeep w0 ow0 μ0 O m z k E:=by intro H W X;obtain ⟨Z,o1,U,q1,q2⟩:=h H W X;obtain ⟨e2,o2,Y,q3,q4⟩:=V U (by grind) (by grind);grind
structure Moves (D:Dom) (w:World) (ow:Own) (μ:Nat->Nat) (st:List BX) (D':Dom) (w':World) (ow':Own) (μ':Nat->Nat) (st':List BX):Prop where
 dom:∀ x o,D x o->D' x o
 keeps:Keeps D w w'
 box:∀ (k:Nat) (T:TypeId) (v:SV),st[k]?=some (.box T v)->μ' k=μ k/\∃ v',st'[k]?=some (.box T v')
 map:∀ (k:Nat) (K E:TypeId) (es:List (PV×PV)),st[k]?=some (.map K E es)->μ' k=μ k/\∃ es',st'[k]?=some (.map K E es')
 obj:∀ (k:Nat) (b:BX),st[k]?=some b->b.sort≠[]->μ' k=μ k/\∃ b',st'[k]?=some b'/\b'.sort=b.sort
 arr:∀ (k:Nat) (E:TypeId) (g:Nat) (xs:List PV),st[k]?=some (.arr E g xs)->∃ g' xs',st'[k]?=some (.arr E g' xs')/\g<=g'/\(g'=g->xs'.length=xs.length/\ArrKeep w ow μ w' ow' μ' k E)
 acc:∀ (k g:Nat),st[k]?=some (.acc g)->∃ g',st'[k]?=some (.acc g')/\g<=g'/\
  (g'=g->∀ b,ow b=some k->w'.heap[b]?=w.heap[b]?/\ow' b=some k/\∀ o,D' b o->D b o)
theorem Moves.refl (D:Dom) (w:World) (ow:Own) (μ:Nat->Nat) (st:List BX):Moves D w ow μ st D w ow μ st:=
 ⟨λ_ _ h=>h,Keeps.refl _ _,λ_ _ _ h=>⟨rfl,_,h⟩,λ_ _ _ _ h=>⟨rfl,_,h⟩,λ_ _ h _=>⟨rfl,_,h,rfl⟩,λ_ _ _ _ h=>⟨_,_,h,Nat.le_refl _,λ_=>⟨rfl,ArrKeep.refl _ _ _ _ _⟩⟩,λ_ _ h=>⟨_,h,Nat.le_refl _,λ_ _ h=>⟨rfl,h,λ_ h=>h⟩⟩⟩
theorem SRep.mono {P:Program}{D D':Dom}{w w':World}{ow ab:Own}{μ ad:Nat->Nat}{st st':List BX}{s:SV}{v:Value} (h:SRep P D w ow μ st s v) (m:Moves D w ow μ st D' w' ab ad st'):SRep P D' w' ab ad st' s v:=by
 induction h with
 | undef=>exact .undef
 | bool=>exact .bool
 | int=>exact .int
 | str=>exact .str
 | slice h=>exact .slice (h.mono m.dom m.keeps)
 | data hT h=>exact .data hT (h.mono m.dom m.keeps)
 | agg hT hl M hv _ ih=>exact .agg hT hl M hv ih
 | map h=>exact .map (h.mono m.dom m.keeps)
 | nils=>exact .nils
 | @acc k g g0 E xs v h d O M=>
  obtain ⟨X,e',ae,W⟩:=m.acc k g0 d;refine .acc (h.mono m.dom m.keeps) e' (Nat.le_trans O ae) (λag=>?_);have e0:g=g0:=by omega
  have Y:X=g0:=by omega
  rcases M e0 with M | ⟨b,cap,U,hv,hh,H,V,Z,hb,hD⟩
  ·exact Or.inl M
  ·obtain ⟨k1,k2,k3⟩:=W Y b hb;exact Or.inr ⟨b,cap,U,hv,k1.trans hh,H,V,Z,k2,λo M hd=>hD o M (k3 o hd)⟩
 | ref d hp=>obtain ⟨e,v',z⟩:=m.box _ _ _ d;rw [<-e];exact .ref z hp
 | mref d=>obtain ⟨e,v',z⟩:=m.map _ _ _ _ d;rw [<-e];exact .mref z
 | iref d=>obtain ⟨e,b',z,W⟩:=m.obj _ _ d (by simp [BX.sort]);rw [<-e];cases b'<;>simp [BX.sort] at W;exact .iref z
 | bref d=>obtain ⟨e,b',z,W⟩:=m.obj _ _ d (by simp [BX.sort]);rw [<-e];cases b'<;>simp [BX.sort] at W;exact .bref z
 | nx H V=>exact .nx H V
 | eif H V=>exact .eif H V
 | ifc _ ih=>exact .ifc ih
 | pto hh hr=>exact .pto (hh.mono m.dom m.keeps) (hr.mono m.dom m.keeps)
 | fn hn W _ ih=>exact .fn hn W ih
 | tup W _ ih=>exact .tup W ih
 | raw=>exact .raw
 | lit h=>exact .lit (h.mono m.dom m.keeps)
 | eref d hT hi=>obtain ⟨e,v',z⟩:=m.box _ _ _ d;rw [<-e];exact .eref z hT hi
 | asl d hT hi hc=>obtain ⟨e,v',z⟩:=m.box _ _ _ d;rw [<-e];exact .asl z hT hi hc
 | arrOld d O M=>obtain ⟨X,xs',H,V,_⟩:=m.arr _ _ _ _ d;exact .arrOld H (by omega) M
 | @arrNil k g E a d=>
  obtain ⟨X,xs',H,V,Z⟩:=m.arr _ _ _ _ d;by_cases O:X=g
  ·obtain ⟨h4,_⟩:=Z O;have:xs'=[]:=List.length_eq_zero_iff.1 h4;subst this;subst O;exact .arrNil H
  ·exact .arrOld H (by omega) rfl
 | @arr k g cap E xs U d hl af hc M W=>
  obtain ⟨X,xs',H,V,Z⟩:=m.arr _ _ _ _ d;by_cases O:X=g
  ·obtain ⟨h4,h5⟩:=Z O;obtain ⟨Y,e2,aa,e3,e4⟩:=h5 U hc M;subst O;rw [<-h4,<-Y];exact .arr H (by omega) af (by rw [Y];exact e3) (by grind) (by omega)
  ·exact .arrOld H (by omega) rfl
 | arefOld d O M=>obtain ⟨X,xs',H,V,_⟩:=m.arr _ _ _ _ d;exact .arefOld H (by omega) M
 | @aref k g i off E T path xs U d hl hp hc M=>
  obtain ⟨X,xs',H,V,Z⟩:=m.arr _ _ _ _ d;by_cases O:X=g
  ·obtain ⟨h4,h5⟩:=Z O;obtain ⟨Y,e2,aa,e3,e4⟩:=h5 U hc M;subst O;rw [<-Y];exact .aref H (by omega) hp (by rw [Y];exact e3) (by grind)
  ·exact .arefOld H (by omega) rfl
def ofPV (P:Program) (T:TypeId) (v:PV):SV:=
 match P.underlying T with
 | some .bool=>.bool v.asBool
 | some (.int k)=>.int k v.asInt
 | some .string=>.str v.asStr
 | some (.slice E)=>.slice E v.asList
 | some (.struct _)=>.data T v
 | some (.array _ _)=>.data T v
 | some (.map K E)=>.map K E v.asMap
 | _=>.raw v.asRaw
theorem Rep.ofPV {P:Program}{D:Dom}{w:World}{ow:Own}{μ:Nat->Nat}{st:List BX}{T:TypeId}{v:PV}{cs:List Value} (h:Rep P D w T v cs):SRep P D w ow μ st (ofPV P T v) (pack P T cs):=by
 cases h with
 | bool d=>simp only [Ab.ofPV,d,pack,aak];exact .bool
 | int d=>simp only [Ab.ofPV,d,pack,aak];exact .int
 | str d=>simp only [Ab.ofPV,d,pack,aak];exact .str
 | nil d M=>simp only [Ab.ofPV,d,pack,aak];exact .slice (.nil M)
 | slice d o Z z hc=>simp only [Ab.ofPV,d,pack,aak];exact .slice (.mk o Z z hc)
 | agg d o H O z=>
  have m:aak P T=true:=by simp [aak,d]
  simp only [Ab.ofPV,d,pack,m,A6];exact .data m (.agg d o H O z)
 | arr d o H O z=>
  have m:aak P T=true:=by simp [aak,d]
  simp only [Ab.ofPV,d,pack,m,A6];exact .data m (.arr d o H O z)
 | mapnil d=>simp only [Ab.ofPV,d,pack,aak];exact .map .nil
 | map kc vc d U M V W X Y=>simp only [Ab.ofPV,d,pack,aak];exact .map (.mk kc vc U M V W X Y)
 | @raw T v h H=>
  have e:Ab.ofPV P T (.raw v)=.raw v:=by grind [rawT,Ab.ofPV,PV.asRaw]
  have m:aak P T=false:=by grind [rawT,aak]
  rw [e];simp only [pack,m];exact .raw
end Go.Ab
