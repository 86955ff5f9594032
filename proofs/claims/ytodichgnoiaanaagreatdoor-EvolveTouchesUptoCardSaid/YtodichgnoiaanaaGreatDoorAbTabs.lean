/- Package-level variables whose contents are laid (by the seat's rows), and what they hold. -/
import Derived.WalkKit
import Derived.LoopN
import Derived.Orders
set_option linter.unusedVariables false
set_option linter.unusedSimpArgs false
set_option linter.unnecessarySimpa false
namespace Go.Ab
open Go
abbrev Bo:=List UInt8
abbrev Aa:=@Option.bind_some
abbrev Ae:=@Nat.eq_of_beq_eq_true
abbrev Af:=@cond_true
abbrev Ag:=@decide_eq_true
abbrev Ah:=@cond_false
abbrev Ai:=@Int.toNat_natCast
abbrev Aj:=@Bool.and_eq_true
abbrev Ak:=@Option.some.injEq
abbrev Al:=@List.length_append
abbrev Am:=@List.getElem?_eq_getElem
abbrev An:=@decide_eq_false
abbrev Ao:=@List.getElem?_set_ne
abbrev Ap:=@List.drop_zero
abbrev Aq:=@Nat.le_of_ble_eq_true
abbrev Ar:=@cond_eq_ite
abbrev As:=@List.append_assoc
abbrev Au:=@Nat.mul_le_mul_right
abbrev Av:=@Bool.not_false
abbrev Aw:=@List.length_nil
abbrev Ax:=@List.length_cons
abbrev Ay:=@Bool.not_true
abbrev Az:=@Nat.lt_of_lt_of_le
abbrev A3:=@List.getElem?_append_left
abbrev A4:=@decide_eq_true_eq
abbrev A5:=@List.getElem?_eq_some_iff
abbrev A6:=@List.nil_append
abbrev A7:=@List.getElem?_append_right
abbrev A8:=@Bool.false_eq_true
abbrev A9:=@if_true
abbrev Ba:=@List.eq_nil_of_length_eq_zero
abbrev Bb:=@if_false
abbrev Bc:=@Bool.or_eq_true
abbrev Bd:=@Option.bind_eq_some_iff
abbrev Be:=@List.drop_eq_nil_of_le
abbrev Bf:=@List.getElem?_eq_none
abbrev Bg:=@Nat.beq_refl
abbrev Bh:=@List.getElem?_map
abbrev Bi:=@List.all_cons
abbrev Bj:=@List.all_eq_true
abbrev Bk:=@List.length_drop
abbrev Bl:=@List.cons_append
abbrev Bm:=@List.mem_append
abbrev Bn:=@List.drop_drop
def an9:List (String×(Array Value->Prop)):=
 [("internal/strconv.uint64pow10",λcs=>cs=((List.range 20).map λi=>Value.int .u64 ((10^i:Nat):Int)).toArray),("math/bits.deBruijn64tab",λcs=>cs[15]?=some (.int .u8 4)),("internal/bytealg.MaxLen",λcs=>∃ m,cs[0]?=some (.int .i64 m))]
end Go.Ab
namespace Go.Ab
open Go
inductive PV where
 | bad
 | bool (b:Bool)
 | int (n:Int)
 | str (s:Bo)
 | slice (xs:List PV)
 | agg (fs:List PV)
 | map (es:List (PV×PV))
 | raw (v:Value)
 deriving Inhabited
namespace PV
def asBool:PV->Bool | .bool b=>b | _=>false
def asInt:PV->Int | .int n=>n | _=>0
def asStr:PV->Bo | .str s=>s | _=>[]
def asList:PV->List PV | .slice xs=>xs | _=>[]
def asMap:PV->List (PV×PV) | .map es=>es | _=>[]
def asRaw:PV->Value | .raw v=>v | _=>undef
def parts:PV->List PV | .agg fs=>fs | _=>[]
def fld (v:PV) (i:Nat):PV:=v.parts.getD i .bad
end PV
def Tabs (P:Program) (ow:Nat->Option Nat) (w:World):Prop:=
 ∀ p,p∈an9->∀ g,P.globalNamed p.1=some g->ow g=none/\∃ cs T h,w.heap[g]?=some (.cells cs T h)/\p.2 cs
abbrev Dom:=Nat->Nat->Prop
structure Keeps (D:Dom) (w w':World):Prop where
 cell:∀ b o,D b o->w'.cell? ⟨b,o,none⟩=w.cell? ⟨b,o,none⟩
 map:∀ b o,D b o->∀ es c,w.heap[b]?=some (.map es c)->w'.heap[b]?=some (.map es c)
theorem Keeps.refl (D:Dom) (w:World):Keeps D w w:=⟨λ_ _ _=>rfl,λ_ _ _ _ _ h=>h⟩
theorem Keeps.trans {D D':Dom}{a b c:World} (h:Keeps D a b) (k:Keeps D' b c) (H:∀ x o,D x o->D' x o):Keeps D a c:=
 ⟨λx o d=>(k.cell x o (H x o d)).trans (h.cell x o d),λx o d es z e=>k.map x o (H x o d) es z (h.map x o d es z e)⟩
def Held (D:Dom) (w:World) (b off:Nat) (cs:List Value):Prop:=
 ∀ j v,cs[j]?=some v->D b (off+j)/\w.cell? ⟨b,off+j,none⟩=some v
theorem Held.mono {D D':Dom}{w w':World}{b off:Nat}{cs:List Value} (h:Held D w b off cs) (z:∀ x o,D x o->D' x o) (I:Keeps D w w'):Held D' w' b off cs:=
 λj v H=>let ⟨d,c⟩:=h j v H;⟨z _ _ d,(I.cell _ _ d).trans c⟩
def rawT (P:Program) (T:TypeId):Bool:=
 match P.underlying T with
 | some .bool | some (.int _) | some .string | some (.slice _) | some (.struct _) | some (.array _ _) | some (.map _ _)=>false
 | _=>true
def aaj (P:Program) (T:TypeId):Bool:=
 match P.underlying T with
 | some (.struct _) | some (.array _ _)=>true
 | _=>false
def pack (P:Program) (T:TypeId) (cs:List Value):Value:=
 if aaj P T then .agg cs.toArray else cs.headD Go.undef
def BornOk (ents:Array MapEntry) (clock:Nat):Prop:=(∀ (i:Nat) (e:MapEntry),ents[i]?=some e->e.born<clock)/\∀ (i j:Nat) (e h:MapEntry),ents[i]?=some e->ents[j]?=some h->e.born=h.born->i=j
def ax0 (P:Program) (K E:TypeId) (kc vc:Nat->List Value) (ents:Array MapEntry) (clock:Nat):Prop:=
 (∀ (i:Nat) (e:MapEntry),ents[i]?=some e->e.key=pack P K (kc i)/\e.val=pack P E (vc i))/\BornOk ents clock
theorem BornOk.nil:BornOk #[] 0:=⟨λi e h=>by simp at h,λi j e o h=>by simp at h⟩
theorem BornOk.push {ents:Array MapEntry}{clock:Nat} (h:BornOk ents clock) (e:MapEntry) (I:e.born=clock):BornOk (ents.push e) (clock+1):=by
 refine ⟨λi x o=>?_,λi j x y o z H=>?_⟩
 ·rw [Array.getElem?_push] at o;split at o
  ·cases o;omega
  ·have:=h.1 i x o;omega
 ·rw [Array.getElem?_push] at o z;split at o<;>split at z
  ·omega
  ·cases o;have:=h.1 j y z;omega
  ·cases z;have:=h.1 i x o;omega
  ·exact h.2 i j x y o z H
theorem BornOk.same {ents o:Array MapEntry}{clock:Nat} (h:BornOk ents clock) (H:∀ (i:Nat) (x:MapEntry),o[i]?=some x->∃ y,ents[i]?=some y/\y.born=x.born):BornOk o clock:=by
 refine ⟨λi x I=>?_,λi j x y I O hb=>?_⟩
 ·obtain ⟨z,J,e⟩:=H i x I;have:=h.1 i z J;omega
 ·obtain ⟨z,J,e⟩:=H i x I;obtain ⟨Z,M,e'⟩:=H j y O;exact h.2 i j z Z J M (by omega)
inductive Rep (P:Program) (D:Dom) (w:World):TypeId->PV->List Value->Prop
 | bool {T:TypeId}{b:Bool}:P.underlying T=some .bool->Rep P D w T (.bool b) [.bool b]
 | int {T:TypeId}{k:IntKind}{n:Int}:P.underlying T=some (.int k)->Rep P D w T (.int n) [.int k n]
 | str {T:TypeId}{s:Bo}:P.underlying T=some .string->Rep P D w T (.str s) [.string ⟨s.toArray⟩]
 | nil {T E:TypeId}{a:Option Addr}{c:Nat}:P.underlying T=some (.slice E)->(a=none->c=0)->Rep P D w T (.slice []) [.slice a 0 c]
 | slice {T E:TypeId}{b off cap:Nat}{xs:List PV}{L:List Value}:P.underlying T=some (.slice E)->xs.length<=cap->L.length=xs.length*P.cellsOf E->
  (∀ (i:Nat) (x:PV),xs[i]?=some x->Rep P D w E x ((L.drop (i*P.cellsOf E)).take (P.cellsOf E)))->Held D w b off L->
  Rep P D w T (.slice xs) [.slice (some ⟨b,off,none⟩) xs.length cap]
 | agg {T:TypeId}{fs:Array Field}{vs:List PV}{cs:List Value}:P.underlying T=some (.struct fs)->cs.length=P.cellsOf T->(∀ c,c∈cs->c.oneCell'=true)->vs.length=fs.size->
  (∀ (i:Nat) (v:PV) (f:Field),vs[i]?=some v->fs[i]?=some f->Rep P D w f.type v ((cs.drop f.offset).take (P.cellsOf f.type)))->Rep P D w T (.agg vs) cs
 | arr {T E:TypeId}{n:Nat}{vs:List PV}{cs:List Value}:P.underlying T=some (.array n E)->cs.length=P.cellsOf T->(∀ c,c∈cs->c.oneCell'=true)->vs.length=n->
  (∀ (i:Nat) (v:PV),vs[i]?=some v->Rep P D w E v ((cs.drop (i*P.cellsOf E)).take (P.cellsOf E)))->Rep P D w T (.agg vs) cs
 | mapnil {T K E:TypeId}:P.underlying T=some (.map K E)->Rep P D w T (.map []) [.map none]
 | map {T K E:TypeId}{r clock:Nat}{ents:Array MapEntry}{es:List (PV×PV)} (kc vc:Nat->List Value):P.underlying T=some (.map K E)->w.heap[r]?=some (.map ents clock)->D r 0->ents.size=es.length->
  (∀ (i:Nat) (x:PV×PV),es[i]?=some x->Rep P D w K x.1 (kc i))->(∀ (i:Nat) (x:PV×PV),es[i]?=some x->Rep P D w E x.2 (vc i))->
  ax0 P K E kc vc ents clock->
  Rep P D w T (.map es) [.map (some r)]
 | raw {T:TypeId}{v:Value}:rawT P T=true->v.oneCell'=true->Rep P D w T (.raw v) [v]
theorem Rep.mono {P:Program}{D D':Dom}{w w':World}{T:TypeId}{v:PV}{cs:List Value} (h:Rep P D w T v cs) (hD:∀ x o,D x o->D' x o) (hk:Keeps D w w'):Rep P D' w' T v cs:=by
 induction h with
 | bool h=>exact .bool h
 | int h=>exact .int h
 | str h=>exact .str h
 | nil h h2=>exact .nil h h2
 | slice z H hL _ hc J=>exact .slice z H hL J (hc.mono hD hk)
 | agg z H I M _ J=>exact .agg z H I M J
 | arr z H I M _ J=>exact .arr z H I M J
 | mapnil z=>exact .mapnil z
 | map kc vc z hh hd hs _ _ he O Z=>exact .map kc vc z (hk.map _ _ hd _ _ hh) (hD _ _ hd) hs O Z he
 | raw h I=>exact .raw h I
inductive SliceRep (P:Program) (D:Dom) (w:World) (E:TypeId):List PV->Value->Prop
 | nil {a:Option Addr}{c:Nat}:(a=none->c=0)->SliceRep P D w E [] (.slice a 0 c)
 | mk {b off cap:Nat}{xs:List PV}{L:List Value}:xs.length<=cap->L.length=xs.length*P.cellsOf E->
  (∀ (i:Nat) (x:PV),xs[i]?=some x->Rep P D w E x ((L.drop (i*P.cellsOf E)).take (P.cellsOf E)))->Held D w b off L->
  SliceRep P D w E xs (.slice (some ⟨b,off,none⟩) xs.length cap)
theorem SliceRep.mono {P:Program}{D D':Dom}{w w':World}{E:TypeId}{xs:List PV}{v:Value} (h:SliceRep P D w E xs v) (z:∀ x o,D x o->D' x o) (H:Keeps D w w'):SliceRep P D' w' E xs v:=by
 cases h with
 | nil h=>exact .nil h
 | mk M I O J=>exact .mk M I (λi x Z=>(O i x Z).mono z H) (J.mono z H)
theorem SliceRep.rep {P:Program}{D:Dom}{w:World}{E T:TypeId}{xs:List PV}{v:Value} (h:SliceRep P D w E xs v) (o:P.underlying T=some (.slice E)):Rep P D w T (.slice xs) [v]:=by
 cases h with
 | nil h=>exact .nil o h
 | mk I z J H=>exact .slice o I z J H
theorem Rep.sliceRep {P:Program}{D:Dom}{w:World}{E T:TypeId}{v:PV}{cs:List Value} (h:Rep P D w T v cs) (o:P.underlying T=some (.slice E)):∃ u,cs=[u]/\SliceRep P D w E v.asList u:=by
 cases h with
 | nil h z=>exact ⟨_,rfl,.nil z⟩
 | slice h J H M I=>rw [o] at h;cases h;exact ⟨_,rfl,.mk J H M I⟩
 | raw h=>simp [rawT,o] at h
 | bool h=>grind
 | int h=>grind
 | str h=>grind
 | agg h=>grind
 | arr h=>grind
 | mapnil h=>grind
 | map _ _ h=>grind
theorem Rep.oneCell {P:Program}{D:Dom}{w:World}{T:TypeId}{v:PV}{cs:List Value} (h:Rep P D w T v cs):∀ c,c∈cs->c.oneCell'=true:=by
 cases h with
 | agg _ _ o=>exact o
 | arr _ _ o=>exact o
 | raw _ o=>grind
 | _=>intro c z;simp at z;subst z;rfl
end Go.Ab
