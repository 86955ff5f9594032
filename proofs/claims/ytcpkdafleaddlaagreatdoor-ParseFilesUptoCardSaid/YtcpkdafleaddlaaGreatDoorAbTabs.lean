/- Package-level variables whose contents are laid (by the seat's rows), and what they hold. -/
import Derived.WalkKit
import Derived.LoopN
import Derived.Orders
set_option linter.unusedVariables false
set_option linter.unusedSimpArgs false
set_option linter.unnecessarySimpa false
namespace Go.Ab
open Go
abbrev Bq:=List UInt8
abbrev Aa:=@Option.bind_some
abbrev Ad:=@cond_true
abbrev Ae:=@cond_false
abbrev Af:=@Nat.eq_of_beq_eq_true
abbrev Ag:=@Int.toNat_natCast
abbrev Ah:=@decide_eq_true
abbrev Ai:=@Bool.and_eq_true
abbrev Aj:=@Bool.not_false
abbrev Ak:=@Option.some.injEq
abbrev Al:=@decide_eq_false
abbrev Am:=@Bool.not_true
abbrev An:=@List.getElem?_eq_getElem
abbrev Ao:=@List.length_cons
abbrev Ap:=@List.getElem?_set_ne
abbrev Aq:=@List.drop_eq_nil_of_le
abbrev Ar:=@List.length_drop
abbrev As:=@Nat.le_of_ble_eq_true
abbrev At:=@beq_eq_false_iff_ne
abbrev Au:=@Nat.mul_le_mul_right
abbrev Av:=@cond_eq_ite
abbrev Aw:=@Nat.lt_of_lt_of_le
abbrev Ax:=@List.append_assoc
abbrev Ay:=@decide_eq_true_eq
abbrev Az:=@List.eq_nil_of_length_eq_zero
abbrev A1:=@List.drop_zero
abbrev A2:=@Bool.false_eq_true
abbrev A3:=@List.nil_append
abbrev A4:=@List.getElem?_eq_some_iff
abbrev A5:=@List.getElem?_append_left
abbrev A6:=@if_true
abbrev A7:=@if_false
abbrev A8:=@List.drop_drop
abbrev A9:=@beq_self_eq_true
abbrev Ba:=@List.length_nil
abbrev Bb:=@List.cons_append
abbrev Bc:=@List.length_append
abbrev Bd:=@Bool.or_eq_true
abbrev Be:=@List.getElem?_append_right
abbrev Bf:=@Option.bind_eq_some_iff
abbrev Bg:=@Nat.beq_refl
abbrev Bh:=@List.all_cons
abbrev Bi:=@List.all_eq_true
abbrev Bj:=@List.getElem?_eq_none
abbrev Bk:=@List.map_cons
abbrev Bl:=@List.mem_cons
abbrev Bm:=@List.mem_append
abbrev Bn:=@List.take_left
abbrev Bo:=@beq_iff_eq
abbrev Bp:=@List.drop_left
def akm:List (String×(Array Value->Prop)):=
 [(
  "internal/strconv.uint64pow10",λcs=>cs=((List.range 20).map λi=>Value.int .u64 ((10^i:Nat):Int)).toArray),("math/bits.deBruijn64tab",λcs=>cs[15]?=some (.int .u8 4)),
  ("strconv.ErrSyntax",λcs=>∃ t p,cs=#[.iface t p]),("strconv.ErrRange",λcs=>∃ t p,cs=#[.iface t p])]
end Go.Ab
namespace Go.Ab
open Go
inductive PV where
 | bad
 | bool (b:Bool)
 | int (n:Int)
 | str (s:Bq)
 | slice (xs:List PV)
 | agg (fs:List PV)
 | map (es:List (PV×PV))
 | raw (v:Value)
 deriving Inhabited
namespace PV
def asBool:PV->Bool | .bool b=>b | _=>false
def asInt:PV->Int | .int n=>n | _=>0
def asStr:PV->Bq | .str s=>s | _=>[]
def asList:PV->List PV | .slice xs=>xs | _=>[]
def asMap:PV->List (PV×PV) | .map es=>es | _=>[]
def asRaw:PV->Value | .raw v=>v | _=>undef
def parts:PV->List PV | .agg fs=>fs | _=>[]
def fld (v:PV) (i:Nat):PV:=v.parts.getD i .bad
end PV
def Tabs (P:Program) (ow:Nat->Option Nat) (w:World):Prop:=
 ∀ p,p∈akm->∀ g,P.globalNamed p.1=some g->ow g=none/\∃ cs T d,w.heap[g]?=some (.cells cs T d)/\p.2 cs
abbrev Dom:=Nat->Nat->Prop
structure Keeps (D:Dom) (w w':World):Prop where
 cell:∀ b o,D b o->w'.cell? ⟨b,o,none⟩=w.cell? ⟨b,o,none⟩
 map:∀ b o,D b o->∀ es c,w.heap[b]?=some (.map es c)->w'.heap[b]?=some (.map es c)
theorem Keeps.refl (D:Dom) (w:World):Keeps D w w:=⟨λ_ _ _=>rfl,λ_ _ _ _ _ h=>h⟩
theorem Keeps.trans {D D':Dom}{a b c:World} (h:Keeps D a b) (k:Keeps D' b c) (z:∀ x o,D x o->D' x o):Keeps D a c:=
 ⟨λx o d=>(k.cell x o (z x o d)).trans (h.cell x o d),λx o d es m e=>k.map x o (z x o d) es m (h.map x o d es m e)⟩
def Held (D:Dom) (w:World) (b off:Nat) (cs:List Value):Prop:=
 ∀ j v,cs[j]?=some v->D b (off+j)/\w.cell? ⟨b,off+j,none⟩=some v
theorem Held.mono {D D':Dom}{w w':World}{b off:Nat}{cs:List Value} (h:Held D w b off cs) (m:∀ x o,D x o->D' x o) (H:Keeps D w w'):Held D' w' b off cs:=
 λj v z=>let ⟨d,c⟩:=h j v z;⟨m _ _ d,(H.cell _ _ d).trans c⟩
def rawT (P:Program) (T:TypeId):Bool:=
 match P.underlying T with
 | some .bool | some (.int _) | some .string | some (.slice _) | some (.struct _) | some (.array _ _) | some (.map _ _)=>false
 | _=>true
def aak (P:Program) (T:TypeId):Bool:=
 match P.underlying T with
 | some (.struct _) | some (.array _ _)=>true
 | _=>false
def pack (P:Program) (T:TypeId) (cs:List Value):Value:=
 if aak P T then .agg cs.toArray else cs.headD Go.undef
inductive Rep (P:Program) (D:Dom) (w:World):TypeId->PV->List Value->Prop
 | bool {T:TypeId}{b:Bool}:P.underlying T=some .bool->Rep P D w T (.bool b) [.bool b]
 | int {T:TypeId}{k:IntKind}{n:Int}:P.underlying T=some (.int k)->Rep P D w T (.int n) [.int k n]
 | str {T:TypeId}{s:Bq}:P.underlying T=some .string->Rep P D w T (.str s) [.string ⟨s.toArray⟩]
 | nil {T E:TypeId}{a:Option Addr}{c:Nat}:P.underlying T=some (.slice E)->(a=none->c=0)->Rep P D w T (.slice []) [.slice a 0 c]
 | slice {T E:TypeId}{b off cap:Nat}{xs:List PV}{L:List Value}:P.underlying T=some (.slice E)->xs.length<=cap->L.length=xs.length*P.cellsOf E->
  (∀ (i:Nat) (x:PV),xs[i]?=some x->Rep P D w E x ((L.drop (i*P.cellsOf E)).take (P.cellsOf E)))->Held D w b off L->
  Rep P D w T (.slice xs) [.slice (some ⟨b,off,none⟩) xs.length cap]
 | agg {T:TypeId}{fs:Array Field}{vs:List PV}{cs:List Value}:P.underlying T=some (.struct fs)->cs.length=P.cellsOf T->(∀ c,c∈cs->c.oneCell'=true)->vs.length=fs.size->
  (∀ (i:Nat) (v:PV) (f:Field),vs[i]?=some v->fs[i]?=some f->Rep P D w f.type v ((cs.drop f.offset).take (P.cellsOf f.type)))->Rep P D w T (.agg vs) cs
 | arr {T E:TypeId}{n:Nat}{vs:List PV}{cs:List Value}:P.underlying T=some (.array n E)->cs.length=P.cellsOf T->(∀ c,c∈cs->c.oneCell'=true)->vs.length=n->
  (∀ (i:Nat) (v:PV),vs[i]?=some v->Rep P D w E v ((cs.drop (i*P.cellsOf E)).take (P.cellsOf E)))->Rep P D w T (.agg vs) cs
 | mapnil {T K E:TypeId}:P.underlying T=some (.map K E)->Rep P D w T (.map []) [.map none]
 | map {T K E:TypeId}{r clock:Nat}{ents:Array MapEntry}{es:List (PV×PV)} (kc vc:Nat->List Value):P.underlying T=some (.map K E)->w.heap[r]?=some (.map ents clock)->D r 0->ents.size=es.length->
  (∀ (i:Nat) (x:PV×PV),es[i]?=some x->Rep P D w K x.1 (kc i))->(∀ (i:Nat) (x:PV×PV),es[i]?=some x->Rep P D w E x.2 (vc i))->
  (∀ (i:Nat) (e:MapEntry),ents[i]?=some e->e.key=pack P K (kc i)/\e.val=pack P E (vc i))->
  Rep P D w T (.map es) [.map (some r)]
 | raw {T:TypeId}{v:Value}:rawT P T=true->v.oneCell'=true->Rep P D w T (.raw v) [v]
theorem Rep.mono {P:Program}{D D':Dom}{w w':World}{T:TypeId}{v:PV}{cs:List Value} (h:Rep P D w T v cs) (V:∀ x o,D x o->D' x o) (X:Keeps D w w'):Rep P D' w' T v cs:=by
 induction h with
 | bool h=>exact .bool h
 | int h=>exact .int h
 | str h=>exact .str h
 | nil h Y=>exact .nil h Y
 | slice d m Z _ hc H=>exact .slice d m Z H (hc.mono V X)
 | agg d m z M _ H=>exact .agg d m z M H
 | arr d m z M _ H=>exact .arr d m z M H
 | mapnil d=>exact .mapnil d
 | map kc vc d hh W hs _ _ he O U=>exact .map kc vc d (X.map _ _ W _ _ hh) (V _ _ W) hs O U he
 | raw h z=>exact .raw h z
inductive SliceRep (P:Program) (D:Dom) (w:World) (E:TypeId):List PV->Value->Prop
 | nil {a:Option Addr}{c:Nat}:(a=none->c=0)->SliceRep P D w E [] (.slice a 0 c)
 | mk {b off cap:Nat}{xs:List PV}{L:List Value}:xs.length<=cap->L.length=xs.length*P.cellsOf E->
  (∀ (i:Nat) (x:PV),xs[i]?=some x->Rep P D w E x ((L.drop (i*P.cellsOf E)).take (P.cellsOf E)))->Held D w b off L->
  SliceRep P D w E xs (.slice (some ⟨b,off,none⟩) xs.length cap)
theorem SliceRep.mono {P:Program}{D D':Dom}{w w':World}{E:TypeId}{xs:List PV}{v:Value} (h:SliceRep P D w E xs v) (d:∀ x o,D x o->D' x o) (m:Keeps D w w'):SliceRep P D' w' E xs v:=by
 cases h with
 | nil h=>exact .nil h
 | mk M z O H=>exact .mk M z (λi x U=>(O i x U).mono d m) (H.mono d m)
theorem SliceRep.held {P:Program}{D:Dom}{w:World}{E:TypeId}{xs:List PV}{b off n cap:Nat} (h:SliceRep P D w E xs (.slice (some ⟨b,off,none⟩) n cap)):∃ L:List Value,L.length=xs.length*P.cellsOf E/\
 (∀ (i:Nat) (x:PV),xs[i]?=some x->Rep P D w E x ((L.drop (i*P.cellsOf E)).take (P.cellsOf E)))/\Held D w b off L:=by
 cases h with
 | nil=>exact ⟨[],by simp,λi x m=>by simp at m,λj v d=>by simp at d⟩
 | @mk _ _ _ _ L H o M z=>grind
theorem SliceRep.rep {P:Program}{D:Dom}{w:World}{E T:TypeId}{xs:List PV}{v:Value} (h:SliceRep P D w E xs v) (d:P.underlying T=some (.slice E)):Rep P D w T (.slice xs) [v]:=by
 cases h with
 | nil h=>exact .nil d h
 | mk z m H o=>exact .slice d z m H o
theorem Rep.sliceRep {P:Program}{D:Dom}{w:World}{E T:TypeId}{v:PV}{cs:List Value} (h:Rep P D w T v cs) (d:P.underlying T=some (.slice E)):∃ u,cs=[u]/\SliceRep P D w E v.asList u:=by
 cases h with
 | nil h m=>exact ⟨_,rfl,.nil m⟩
 | slice h H o M z=>rw [d] at h;cases h;exact ⟨_,rfl,.mk H o M z⟩
 | raw h=>simp [rawT,d] at h
 | bool h=>grind
 | int h=>grind
 | str h=>grind
 | agg h=>grind
 | arr h=>grind
 | mapnil h=>grind
 | map _ _ h=>grind
theorem Rep.oneCell {P:Program}{D:Dom}{w:World}{T:TypeId}{v:PV}{cs:List Value} (h:Rep P D w T v cs):∀ c,c∈cs->c.oneCell'=true:=by
 cases h with
 | agg _ _ d=>exact d
 | arr _ _ d=>exact d
 | raw _ d=>grind
 | _=>intro c m;simp at m;subst m;rfl
end Go.Ab
