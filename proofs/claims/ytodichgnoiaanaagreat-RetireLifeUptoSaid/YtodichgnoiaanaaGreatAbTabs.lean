/- Package-level variables whose contents are laid (by the seat's rows): none. -/
import Derived.WalkKit
import Derived.LoopN
import Derived.Orders
set_option linter.unusedVariables false
set_option linter.unusedSimpArgs false
set_option linter.unnecessarySimpa false
namespace Go.Ab
open Go
def azy:List (String×(Array Value->Prop)):=[]
end Go.Ab
namespace Go.Ab
open Go
inductive PV where
 | bad
 | bool (b:Bool)
 | int (n:Int)
 | str (s:List UInt8)
 | slice (xs:List PV)
 | agg (fs:List PV)
 | map (es:List (PV×PV))
 | raw (v:Value)
 deriving Inhabited
namespace PV
def asBool:PV->Bool | .bool b=>b | _=>false
def asInt:PV->Int | .int n=>n | _=>0
def asStr:PV->List UInt8 | .str s=>s | _=>[]
def asList:PV->List PV | .slice xs=>xs | _=>[]
def asMap:PV->List (PV×PV) | .map es=>es | _=>[]
def asRaw:PV->Value | .raw v=>v | _=>undef
def parts:PV->List PV | .agg fs=>fs | _=>[]
def fld (v:PV) (i:Nat):PV:=v.parts.getD i .bad
end PV
def Tabs (P:Program) (ow:Nat->Option Nat) (w:World):Prop:=
 ∀ p,p∈azy->∀ g,P.globalNamed p.1=some g->ow g=none/\∃ cs T fr,w.heap[g]?=some (.cells cs T fr)/\p.2 cs
abbrev Dom:=Nat->Nat->Prop
structure Keeps (D:Dom) (w w':World):Prop where
 cell:∀ b o,D b o->w'.cell? ⟨b,o,none⟩=w.cell? ⟨b,o,none⟩
 map:∀ b o,D b o->∀ es c,w.heap[b]?=some (.map es c)->w'.heap[b]?=some (.map es c)
theorem Keeps.refl (D:Dom) (w:World):Keeps D w w:=⟨fun _ _ _=>rfl,fun _ _ _ _ _ h=>h⟩
theorem Keeps.trans {D D':Dom}{a b c:World} (h:Keeps D a b) (k:Keeps D' b c) (hD:∀ x o,D x o->D' x o):Keeps D a c:=
 ⟨fun x o d=>(k.cell x o (hD x o d)).trans (h.cell x o d),fun x o d es cl e=>k.map x o (hD x o d) es cl (h.map x o d es cl e)⟩
def Held (D:Dom) (w:World) (b off:Nat) (cs:List Value):Prop:=
 ∀ j v,cs[j]?=some v->D b (off+j)/\w.cell? ⟨b,off+j,none⟩=some v
theorem Held.mono {D D':Dom}{w w':World}{b off:Nat}{cs:List Value} (h:Held D w b off cs) (hD:∀ x o,D x o->D' x o) (hk:Keeps D w w'):Held D' w' b off cs:=
 fun j v hj=>let ⟨d,c⟩:=h j v hj;⟨hD _ _ d,(hk.cell _ _ d).trans c⟩
def rawT (P:Program) (T:TypeId):Bool:=
 match P.underlying T with
 | some .bool | some (.int _) | some .string | some (.slice _) | some (.struct _) | some (.array _ _) | some (.map _ _)=>false
 | _=>true
def aaj (P:Program) (T:TypeId):Bool:=
 match P.underlying T with
 | some (.struct _) | some (.array _ _)=>true
 | _=>false
def pack (P:Program) (T:TypeId) (cs:List Value):Value:=
 if aaj P T then .agg cs.toArray else cs.headD Go.undef
def BornOk (ents:Array MapEntry) (clock:Nat):Prop:=(∀ (i:Nat) (e:MapEntry),ents[i]?=some e->e.born<clock)/\∀ (i j:Nat) (e e':MapEntry),ents[i]?=some e->ents[j]?=some e'->e.born=e'.born->i=j
def au0 (P:Program) (K E:TypeId) (kc vc:Nat->List Value) (ents:Array MapEntry) (clock:Nat):Prop:=
 (∀ (i:Nat) (e:MapEntry),ents[i]?=some e->e.key=pack P K (kc i)/\e.val=pack P E (vc i))/\BornOk ents clock
theorem BornOk.nil:BornOk #[] 0:=⟨fun i e h=>by simp at h,fun i j e e' h=>by simp at h⟩
theorem BornOk.push {ents:Array MapEntry}{clock:Nat} (h:BornOk ents clock) (e:MapEntry) (he:e.born=clock):BornOk (ents.push e) (clock+1):=by
 refine ⟨fun i x hx=>?_,fun i j x y hx hy hb=>?_⟩
 ·rw [Array.getElem?_push] at hx
  split at hx
  ·cases hx;omega
  ·have:=h.1 i x hx;omega
 ·rw [Array.getElem?_push] at hx hy
  split at hx<;>split at hy
  ·omega
  ·cases hx;have:=h.1 j y hy;omega
  ·cases hy;have:=h.1 i x hx;omega
  ·exact h.2 i j x y hx hy hb
theorem BornOk.same {ents ents':Array MapEntry}{clock:Nat} (h:BornOk ents clock) (hs:∀ (i:Nat) (x:MapEntry),ents'[i]?=some x->∃ y,ents[i]?=some y/\y.born=x.born):BornOk ents' clock:=by
 refine ⟨fun i x hx=>?_,fun i j x y hx hy hb=>?_⟩
 ·obtain ⟨z,hz,e⟩:=hs i x hx;have:=h.1 i z hz;omega
 ·obtain ⟨z,hz,e⟩:=hs i x hx
  obtain ⟨z',hz',e'⟩:=hs j y hy
  exact h.2 i j z z' hz hz' (by omega)
inductive Rep (P:Program) (D:Dom) (w:World):TypeId->PV->List Value->Prop
 | bool {T:TypeId}{b:Bool}:P.underlying T=some .bool->Rep P D w T (.bool b) [.bool b]
 | int {T:TypeId}{k:IntKind}{n:Int}:P.underlying T=some (.int k)->Rep P D w T (.int n) [.int k n]
 | str {T:TypeId}{s:List UInt8}:P.underlying T=some .string->Rep P D w T (.str s) [.string ⟨s.toArray⟩]
 | nil {T E:TypeId}{a:Option Addr}{c:Nat}:P.underlying T=some (.slice E)->(a=none->c=0)->Rep P D w T (.slice []) [.slice a 0 c]
 | slice {T E:TypeId}{b off cap:Nat}{xs:List PV}{L:List Value}:P.underlying T=some (.slice E)->xs.length<=cap->L.length=xs.length*P.cellsOf E->
  (∀ (i:Nat) (x:PV),xs[i]?=some x->Rep P D w E x ((L.drop (i*P.cellsOf E)).take (P.cellsOf E)))->Held D w b off L->
  Rep P D w T (.slice xs) [.slice (some ⟨b,off,none⟩) xs.length cap]
 | agg {T:TypeId}{fs:Array Field}{vs:List PV}{cs:List Value}:P.underlying T=some (.struct fs)->cs.length=P.cellsOf T->(∀ c,c∈cs->c.oneCell'=true)->vs.length=fs.size->
  (∀ (i:Nat) (v:PV) (f:Field),vs[i]?=some v->fs[i]?=some f->Rep P D w f.type v ((cs.drop f.offset).take (P.cellsOf f.type)))->Rep P D w T (.agg vs) cs
 | arr {T E:TypeId}{n:Nat}{vs:List PV}{cs:List Value}:P.underlying T=some (.array n E)->cs.length=P.cellsOf T->(∀ c,c∈cs->c.oneCell'=true)->vs.length=n->
  (∀ (i:Nat) (v:PV),vs[i]?=some v->Rep P D w E v ((cs.drop (i*P.cellsOf E)).take (P.cellsOf E)))->Rep P D w T (.agg vs) cs
 | mapnil {T K E:TypeId}:P.underlying T=some (.map K E)->Rep P D w T (.map []) [.map none]
 | map {T K E:TypeId}{r clock:Nat}{ents:Array MapEntry}{es:List (PV×PV)} (kc vc:Nat->List Value):P.underlying T=some (.map K E)->w.heap[r]?=some (.map ents clock)->D r 0->ents.size=es.length->
  (∀ (i:Nat) (x:PV×PV),es[i]?=some x->Rep P D w K x.1 (kc i))->(∀ (i:Nat) (x:PV×PV),es[i]?=some x->Rep P D w E x.2 (vc i))->
  au0 P K E kc vc ents clock->
  Rep P D w T (.map es) [.map (some r)]
 | raw {T:TypeId}{v:Value}:rawT P T=true->v.oneCell'=true->Rep P D w T (.raw v) [v]
theorem Rep.mono {P:Program}{D D':Dom}{w w':World}{T:TypeId}{v:PV}{cs:List Value} (h:Rep P D w T v cs) (hD:∀ x o,D x o->D' x o) (hk:Keeps D w w'):Rep P D' w' T v cs:=by
 induction h with
 | bool h=>exact .bool h
 | int h=>exact .int h
 | str h=>exact .str h
 | nil h h2=>exact .nil h h2
 | slice hT hl hL _ hc ih=>exact .slice hT hl hL ih (hc.mono hD hk)
 | agg hT hl ho hv _ ih=>exact .agg hT hl ho hv ih
 | arr hT hl ho hv _ ih=>exact .arr hT hl ho hv ih
 | mapnil hT=>exact .mapnil hT
 | map kc vc hT hh hd hs _ _ he ih1 ih2=>exact .map kc vc hT (hk.map _ _ hd _ _ hh) (hD _ _ hd) hs ih1 ih2 he
 | raw h ho=>exact .raw h ho
inductive SliceRep (P:Program) (D:Dom) (w:World) (E:TypeId):List PV->Value->Prop
 | nil {a:Option Addr}{c:Nat}:(a=none->c=0)->SliceRep P D w E [] (.slice a 0 c)
 | mk {b off cap:Nat}{xs:List PV}{L:List Value}:xs.length<=cap->L.length=xs.length*P.cellsOf E->
  (∀ (i:Nat) (x:PV),xs[i]?=some x->Rep P D w E x ((L.drop (i*P.cellsOf E)).take (P.cellsOf E)))->Held D w b off L->
  SliceRep P D w E xs (.slice (some ⟨b,off,none⟩) xs.length cap)
theorem SliceRep.mono {P:Program}{D D':Dom}{w w':World}{E:TypeId}{xs:List PV}{v:Value} (h:SliceRep P D w E xs v) (hD:∀ x o,D x o->D' x o) (hk:Keeps D w w'):SliceRep P D' w' E xs v:=by
 cases h with
 | nil h=>exact .nil h
 | mk hl hL hr hc=>exact .mk hl hL (fun i x hx=>(hr i x hx).mono hD hk) (hc.mono hD hk)
theorem SliceRep.held {P:Program}{D:Dom}{w:World}{E:TypeId}{xs:List PV}{b off n cap:Nat} (h:SliceRep P D w E xs (.slice (some ⟨b,off,none⟩) n cap)):∃ L:List Value,L.length=xs.length*P.cellsOf E/\
 (∀ (i:Nat) (x:PV),xs[i]?=some x->Rep P D w E x ((L.drop (i*P.cellsOf E)).take (P.cellsOf E)))/\Held D w b off L:=by
 cases h with
 | nil=>exact ⟨[],by simp,fun i x hx=>by simp at hx,fun j v hj=>by simp at hj⟩
 | @mk _ _ _ _ L hl hL hr hc=>exact ⟨L,hL,hr,hc⟩
theorem SliceRep.rep {P:Program}{D:Dom}{w:World}{E T:TypeId}{xs:List PV}{v:Value} (h:SliceRep P D w E xs v) (hT:P.underlying T=some (.slice E)):Rep P D w T (.slice xs) [v]:=by
 cases h with
 | nil h=>exact .nil hT h
 | mk hl hL hr hc=>exact .slice hT hl hL hr hc
theorem Rep.sliceRep {P:Program}{D:Dom}{w:World}{E T:TypeId}{v:PV}{cs:List Value} (h:Rep P D w T v cs) (hT:P.underlying T=some (.slice E)):∃ u,cs=[u]/\SliceRep P D w E v.asList u:=by
 cases h with
 | nil h h2=>exact ⟨_,rfl,.nil h2⟩
 | slice h hl hL hr hc=>
  rw [hT] at h;cases h
  exact ⟨_,rfl,.mk hl hL hr hc⟩
 | raw h=>simp [rawT,hT] at h
 | bool h=>rw [hT] at h;cases h
 | int h=>rw [hT] at h;cases h
 | str h=>rw [hT] at h;cases h
 | agg h=>rw [hT] at h;cases h
 | arr h=>rw [hT] at h;cases h
 | mapnil h=>rw [hT] at h;cases h
 | map _ _ h=>rw [hT] at h;cases h
theorem Rep.oneCell {P:Program}{D:Dom}{w:World}{T:TypeId}{v:PV}{cs:List Value} (h:Rep P D w T v cs):∀ c,c∈cs->c.oneCell'=true:=by
 cases h with
 | agg _ _ ho=>exact ho
 | arr _ _ ho=>exact ho
 | raw _ ho=>intro c hc;simp at hc;subst hc;exact ho
 | _=>intro c hc;simp at hc;subst hc;rfl
end Go.Ab
