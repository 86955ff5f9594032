/- Package-level variables whose contents are laid (by the seat's rows), and what they hold. -/
import Derived.WalkKit
import Derived.LoopN
import Derived.Orders
set_option linter.unusedVariables false
set_option linter.unusedSimpArgs false
set_option linter.unnecessarySimpa false
namespace Go.Ab
open Go
abbrev Bn:=List UInt8
abbrev Aa:=@Option.bind_some
abbrev Ad:=@cond_true
abbrev Ae:=@Int.toNat_natCast
abbrev Af:=@cond_false
abbrev Ag:=@Nat.eq_of_beq_eq_true
abbrev Ah:=@decide_eq_true
abbrev Ai:=@Bool.and_eq_true
abbrev Aj:=@Option.some.injEq
abbrev Ak:=@List.length_append
abbrev Al:=@List.length_cons
abbrev Am:=@List.length_nil
abbrev An:=@Bool.not_true
abbrev Ao:=@Bool.not_false
abbrev Ap:=@List.getElem?_eq_getElem
abbrev Aq:=@List.append_assoc
abbrev Ar:=@List.drop_zero
abbrev As:=@cond_eq_ite
abbrev At:=@Nat.le_of_ble_eq_true
abbrev Au:=@Nat.mul_le_mul_right
abbrev Av:=@decide_eq_false
abbrev Aw:=@List.nil_append
abbrev Ax:=@decide_eq_true_eq
abbrev Ay:=@List.getElem?_set_ne
abbrev Az:=@beq_self_eq_true
abbrev A0:=@Nat.lt_of_lt_of_le
abbrev A1:=@List.getElem?_append_left
abbrev A2:=@List.cons_append
abbrev A3:=@Bool.false_eq_true
abbrev A4:=@List.getElem?_append_right
abbrev A5:=@List.eq_nil_of_length_eq_zero
abbrev A6:=@List.getElem?_eq_some_iff
abbrev A7:=@Bool.or_eq_true
abbrev A8:=@if_true
abbrev A9:=@if_false
abbrev Ba:=@List.drop_eq_nil_of_le
abbrev Bb:=@List.all_cons
abbrev Bc:=@List.getElem?_eq_none
abbrev Bd:=@List.all_eq_true
abbrev Be:=@beq_eq_false_iff_ne
abbrev Bf:=@List.getElem?_map
abbrev Bg:=@Nat.beq_refl
abbrev Bh:=@Option.bind_eq_some_iff
abbrev Bi:=@List.mem_cons
abbrev Bj:=@List.length_drop
abbrev Bk:=@List.drop_drop
abbrev Bl:=@List.map_cons
abbrev Bm:=@List.mem_append
def als:List (String×(Array Value->Prop)):=
 [("internal/strconv.uint64pow10",λcs=>cs=((List.range 20).map λi=>Value.int .u64 ((10^i:Nat):Int)).toArray),("math/bits.deBruijn64tab",λcs=>cs[15]?=some (.int .u8 4)),
  ("wireschema/promote.families",λcs=>cs[1]?=some (.int .i64 2)/\cs[2]?=some (.int .i64 2)),
  ("wireschema/promote.bounds",λcs=>cs[2]?=some (.int .u64 2147483648)/\cs[3]?=some (.int .u64 2147483647)/\cs[4]?=some (.int .u64 9223372036854775808)/\cs[5]?=some (.int .u64 9223372036854775807))]
end Go.Ab
namespace Go.Ab
open Go
inductive PV where
 |bad
 |bool (b:Bool)
 |int (n:Int)
 |str (s:Bn)
 |slice (xs:List PV)
 |agg (fs:List PV)
 |map (es:List (PV×PV))
 |raw (v:Value)
 deriving Inhabited
namespace PV
def asBool:PV->Bool|.bool b=>b|_=>false
def asInt:PV->Int|.int n=>n|_=>0
def asStr:PV->Bn|.str s=>s|_=>[]
def asList:PV->List PV|.slice xs=>xs|_=>[]
def asMap:PV->List (PV×PV)|.map es=>es|_=>[]
def asRaw:PV->Value|.raw v=>v|_=>undef
def parts:PV->List PV|.agg fs=>fs|_=>[]
def fld(v:PV)(i:Nat):PV:=v.parts.getD i .bad
end PV
def Tabs(P:Program)(ow:Nat->Option Nat)(w:World):Prop:=
 ∀p,p∈als->∀g,P.globalNamed p.1=some g->ow g=none/\∃cs T m,w.heap[g]?=some (.cells cs T m)/\p.2 cs
abbrev Dom:=Nat->Nat->Prop
structure Keeps(D:Dom)(w w':World):Prop where
 cell:∀b o,D b o->w'.cell? ⟨b,o,none⟩=w.cell? ⟨b,o,none⟩
 map:∀b o,D b o->∀es c,w.heap[b]?=some (.map es c)->w'.heap[b]?=some (.map es c)
theorem Keeps.refl(D:Dom)(w:World):Keeps D w w:=⟨λ_ _ _=>rfl,λ_ _ _ _ _ h=>h⟩
theorem Keeps.trans{D D':Dom}{a b c:World}(h:Keeps D a b)(k:Keeps D' b c)(t:∀x o,D x o->D' x o):Keeps D a c:=
 ⟨λx o d=>(k.cell x o (t x o d)).trans (h.cell x o d),λx o d es m e=>k.map x o (t x o d) es m (h.map x o d es m e)⟩
def Held(D:Dom)(w:World)(b off:Nat)(cs:List Value):Prop:=
 ∀j v,cs[j]?=some v->D b (off+j)/\w.cell? ⟨b,off+j,none⟩=some v
theorem Held.mono{D D':Dom}{w w':World}{b off:Nat}{cs:List Value}(h:Held D w b off cs)(m:∀x o,D x o->D' x o)(z:Keeps D w w'):Held D' w' b off cs:=
 λj v t=>let⟨d,c⟩:=h j v t;⟨m _ _ d,(z.cell _ _ d).trans c⟩
def rawT(P:Program)(T:TypeId):Bool:=
 match P.underlying T with
 |some .bool|some (.int _)|some .string|some (.slice _)|some (.struct _)|some (.array _ _)|some (.map _ _)=>false
 |_=>true
def aah(P:Program)(T:TypeId):Bool:=
 match P.underlying T with
 |some (.struct _)|some (.array _ _)=>true
 |_=>false
def pack(P:Program)(T:TypeId)(cs:List Value):Value:=
 if aah P T then .agg cs.toArray else cs.headD Go.undef
def BornOk(ents:Array MapEntry)(clock:Nat):Prop:=(∀(i:Nat)(e:MapEntry),ents[i]?=some e->e.born<clock)/\∀(i j:Nat)(e m:MapEntry),ents[i]?=some e->ents[j]?=some m->e.born=m.born->i=j
def a2c(P:Program)(K E:TypeId)(kc vc:Nat->List Value)(ents:Array MapEntry)(clock:Nat):Prop:=
 (∀(i:Nat)(e:MapEntry),ents[i]?=some e->e.key=pack P K (kc i)/\e.val=pack P E (vc i))/\BornOk ents clock
theorem BornOk.nil:BornOk #[] 0:=⟨λi e h=>by simp at h,λi j e m h=>by simp at h⟩
theorem BornOk.push{ents:Array MapEntry}{clock:Nat}(h:BornOk ents clock)(e:MapEntry)(z:e.born=clock):BornOk (ents.push e) (clock+1):=by
 refine⟨λi x m=>?_,λi j x y m o t=>?_⟩
 ·rw[Array.getElem?_push]at m;split at m
  ·cases m;omega
  ·have:=h.1 i x m;omega
 ·rw[Array.getElem?_push]at m o;split at m<;>split at o
  ·omega
  ·cases m;have:=h.1 j y o;omega
  ·cases o;have:=h.1 i x m;omega
  ·exact h.2 i j x y m o t
theorem BornOk.same{ents m:Array MapEntry}{clock:Nat}(h:BornOk ents clock)(o:∀(i:Nat)(x:MapEntry),m[i]?=some x->∃y,ents[i]?=some y/\y.born=x.born):BornOk m clock:=by
 refine⟨λi x t=>?_,λi j x y t I O=>?_⟩
 ·obtain⟨z,G,e⟩:=o i x t;have:=h.1 i z G;omega
 ·obtain⟨z,G,e⟩:=o i x t;obtain⟨J,H,M⟩:=o j y I;exact h.2 i j z J G H (by omega)
inductive Rep(P:Program)(D:Dom)(w:World):TypeId->PV->List Value->Prop
 |bool {T:TypeId}{b:Bool}:P.underlying T=some .bool->Rep P D w T (.bool b) [.bool b]
 |int {T:TypeId}{k:IntKind}{n:Int}:P.underlying T=some (.int k)->Rep P D w T (.int n) [.int k n]
 |str {T:TypeId}{s:Bn}:P.underlying T=some .string->Rep P D w T (.str s) [.string ⟨s.toArray⟩]
 |nil {T E:TypeId}{a:Option Addr}{c:Nat}:P.underlying T=some (.slice E)->(a=none->c=0)->Rep P D w T (.slice []) [.slice a 0 c]
 |slice {T E:TypeId}{b off cap:Nat}{xs:List PV}{L:List Value}:P.underlying T=some (.slice E)->xs.length<=cap->L.length=xs.length*P.cellsOf E->
  (∀(i:Nat)(x:PV),xs[i]?=some x->Rep P D w E x ((L.drop (i*P.cellsOf E)).take (P.cellsOf E)))->Held D w b off L->
  Rep P D w T (.slice xs) [.slice (some ⟨b,off,none⟩) xs.length cap]
 |agg {T:TypeId}{fs:Array Field}{vs:List PV}{cs:List Value}:P.underlying T=some (.struct fs)->cs.length=P.cellsOf T->(∀c,c∈cs->c.oneCell'=true)->vs.length=fs.size->
  (∀(i:Nat)(v:PV)(f:Field),vs[i]?=some v->fs[i]?=some f->Rep P D w f.type v ((cs.drop f.offset).take (P.cellsOf f.type)))->Rep P D w T (.agg vs) cs
 |arr {T E:TypeId}{n:Nat}{vs:List PV}{cs:List Value}:P.underlying T=some (.array n E)->cs.length=P.cellsOf T->(∀c,c∈cs->c.oneCell'=true)->vs.length=n->
  (∀(i:Nat)(v:PV),vs[i]?=some v->Rep P D w E v ((cs.drop (i*P.cellsOf E)).take (P.cellsOf E)))->Rep P D w T (.agg vs) cs
 |mapnil {T K E:TypeId}:P.underlying T=some (.map K E)->Rep P D w T (.map []) [.map none]
 |map {T K E:TypeId}{r clock:Nat}{ents:Array MapEntry}{es:List (PV×PV)} (kc vc:Nat->List Value):P.underlying T=some (.map K E)->w.heap[r]?=some (.map ents clock)->D r 0->ents.size=es.length->
  (∀(i:Nat)(x:PV×PV),es[i]?=some x->Rep P D w K x.1 (kc i))->(∀(i:Nat)(x:PV×PV),es[i]?=some x->Rep P D w E x.2 (vc i))->
  a2c P K E kc vc ents clock->
  Rep P D w T (.map es) [.map (some r)]
 |raw {T:TypeId}{v:Value}:rawT P T=true->v.oneCell'=true->Rep P D w T (.raw v) [v]
theorem Rep.mono{P:Program}{D D':Dom}{w w':World}{T:TypeId}{v:PV}{cs:List Value}(h:Rep P D w T v cs)(M:∀x o,D x o->D' x o)(U:Keeps D w w'):Rep P D' w' T v cs:=by
 induction h with
 |bool h=>exact .bool h
 |int h=>exact .int h
 |str h=>exact .str h
 |nil h V=>exact .nil h V
 |slice m t W _ X G=>exact .slice m t W G (X.mono M U)
 |agg m t z H _ G=>exact .agg m t z H G
 |arr m t z H _ G=>exact .arr m t z H G
 |mapnil m=>exact .mapnil m
 |map kc vc m Z O hs _ _ Y I J=>exact .map kc vc m (U.map _ _ O _ _ Z) (M _ _ O) hs I J Y
 |raw h z=>exact .raw h z
inductive SliceRep(P:Program)(D:Dom)(w:World)(E:TypeId):List PV->Value->Prop
 |nil {a:Option Addr}{c:Nat}:(a=none->c=0)->SliceRep P D w E [] (.slice a 0 c)
 |mk {b off cap:Nat}{xs:List PV}{L:List Value}:xs.length<=cap->L.length=xs.length*P.cellsOf E->
  (∀(i:Nat)(x:PV),xs[i]?=some x->Rep P D w E x ((L.drop (i*P.cellsOf E)).take (P.cellsOf E)))->Held D w b off L->
  SliceRep P D w E xs (.slice (some ⟨b,off,none⟩) xs.length cap)
theorem SliceRep.mono{P:Program}{D D':Dom}{w w':World}{E:TypeId}{xs:List PV}{v:Value}(h:SliceRep P D w E xs v)(m:∀x o,D x o->D' x o)(t:Keeps D w w'):SliceRep P D' w' E xs v:=by
 cases h with
 |nil h=>exact .nil h
 |mk H z I G=>exact .mk H z (λi x J=>(I i x J).mono m t) (G.mono m t)
theorem SliceRep.held{P:Program}{D:Dom}{w:World}{E:TypeId}{xs:List PV}{b off n cap:Nat}(h:SliceRep P D w E xs (.slice (some ⟨b,off,none⟩) n cap)):∃L:List Value,L.length=xs.length*P.cellsOf E/\
 (∀(i:Nat)(x:PV),xs[i]?=some x->Rep P D w E x ((L.drop (i*P.cellsOf E)).take (P.cellsOf E)))/\Held D w b off L:=by
 cases h with
 |nil=>exact⟨[],by simp,λi x o=>by simp at o,λj v m=>by simp at m⟩
 |@mk _ _ _ _ L G t H z=>grind
theorem SliceRep.rep{P:Program}{D:Dom}{w:World}{E T:TypeId}{xs:List PV}{v:Value}(h:SliceRep P D w E xs v)(m:P.underlying T=some (.slice E)):Rep P D w T (.slice xs) [v]:=by
 cases h with
 |nil h=>exact .nil m h
 |mk z o G t=>exact .slice m z o G t
theorem Rep.sliceRep{P:Program}{D:Dom}{w:World}{E T:TypeId}{v:PV}{cs:List Value}(h:Rep P D w T v cs)(m:P.underlying T=some (.slice E)):∃u,cs=[u]/\SliceRep P D w E v.asList u:=by
 cases h with
 |nil h o=>exact⟨_,rfl,.nil o⟩
 |slice h G t H z=>rw[m]at h;cases h;exact⟨_,rfl,.mk G t H z⟩
 |raw h=>simp[rawT,m]at h
 |bool h=>grind
 |int h=>grind
 |str h=>grind
 |agg h=>grind
 |arr h=>grind
 |mapnil h=>grind
 |map _ _ h=>grind
theorem Rep.oneCell{P:Program}{D:Dom}{w:World}{T:TypeId}{v:PV}{cs:List Value}(h:Rep P D w T v cs):∀c,c∈cs->c.oneCell'=true:=by
 cases h with
 |agg _ _ m=>exact m
 |arr _ _ m=>exact m
 |raw _ m=>grind
 |_=>intro c o;simp at o;subst o;rfl
end Go.Ab
