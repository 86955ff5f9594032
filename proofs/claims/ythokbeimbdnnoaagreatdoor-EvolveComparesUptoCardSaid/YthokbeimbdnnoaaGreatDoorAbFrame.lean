/- States in one form, with typed parts. -/
import Derived.Test.YthokbeimbdnnoaaGreatDoorAbCode
set_option linter.unusedVariables false
set_option linter.unusedSimpArgs false
set_option linter.unnecessarySimpa false
namespace Go.Ab
open Go
inductive Shape where
 | bool
 | int (k:IntKind)
 | str
 | slice (E:TypeId)
 | data (T:TypeId)
 | map (K E:TypeId)
 | acc (k:Nat) (E:TypeId)
 | pto (T:TypeId)
 | raw
 | eif
 | ifc (T:TypeId)
 | sln (E:TypeId)
 | con (s:SV)
@[reducible] def Shape.ty:Shape->Type
 | .bool=>Bool
 | .int _=>Int
 | .str=>Bq
 | .slice _=>List PV
 | .data _=>PV
 | .map _ _=>List (PV×PV)
 | .acc _ _=>List PV
 | .pto _=>PV
 | .raw=>Value
 | .eif=>Bool
 | .ifc _=>PV
 | .sln _=>List PV
 | .con _=>Unit
def unGd (s:SV):SV:=match s with | .gd _ _ _=>.undef | s=>s
@[reducible] def Shape.enc:(s:Shape)->s.ty->SV
 | .bool,b=>.bool b
 | .int k,n=>.int k n
 | .str,s=>.str s
 | .slice E,xs=>.slice E xs
 | .data T,v=>.data T v
 | .map K E,es=>.map K E es
 | .acc k E,xs=>.acc k 0 E xs
 | .pto T,v=>.pto T v
 | .raw,v=>.raw v
 | .eif,b=>.eif b
 | .ifc T,v=>.ifc T (.data T v)
 | .sln E,xs=>.sln E xs
 | .con c,_=>unGd c
def beqN:List Nat->List Nat->Bool
 | [],[]=>true
 | x::r,y::q=>Nat.beq x y&&beqN r q
 | _,_=>false
theorem a4w:∀ {a b:List Nat},beqN a b=true->a=b:=by
 intro a;induction a with
 | nil=>intro b h;cases b with | nil=>rfl | cons=>simp [beqN] at h
 | cons x r o=>
  intro b h;cases b with
  | nil=>simp [beqN] at h
  | cons y q=>simp only [beqN,Ai] at h;rw [Aa h.1,o h.2]
def ap4 (a b:SV):Bool:=
 match a,b with
 | .ref k p T,.ref h p' o=>Nat.beq k h&&beqN p p'&&Nat.beq T o
 | .mref k,.mref h=>Nat.beq k h
 | .mitr k,.mitr h=>Nat.beq k h
 | .iref k,.iref h=>Nat.beq k h
 | .bref k T,.bref h o=>Nat.beq k h&&Nat.beq T o
 | .nils,.nils=>true
 | .arr k g E,.arr h H z=>Nat.beq k h&&Nat.beq g H&&Nat.beq E z
 | _,_=>false
theorem ap5 {a b:SV} (h:ap4 a b=true):a=b:=by
 unfold ap4 at h;split at h
 ·simp only [Ai] at h;rw [Aa h.1.1,a4w h.1.2,Aa h.2]
 ·rw [Aa h]
 ·rw [Aa h]
 ·rw [Aa h]
 ·simp only [Ai] at h;rw [Aa h.1,Aa h.2]
 ·rfl
 ·simp only [Ai] at h;rw [Aa h.1.1,Aa h.1.2,Aa h.2]
 ·cases h
def ajj:List SV->List SV->Bool
 | [],[]=>true
 | x::r,y::q=>ap4 x y&&ajj r q
 | _,_=>false
theorem avc:∀ {a b:List SV},ajj a b=true->a=b:=by
 intro a;induction a with
 | nil=>intro b h;cases b with | nil=>rfl | cons=>simp [ajj] at h
 | cons x r o=>
  intro b h;cases b with
  | nil=>simp [ajj] at h
  | cons y q=>simp only [ajj,Ai] at h;rw [ap5 h.1,o h.2]
def at4 (a b:SV):Bool:=
 match a,b with
 | .fn f n cs,.fn o z h=>Nat.beq f o&&Nat.beq n z&&ajj cs h
 | a,b=>ap4 a b
theorem axk {a b:SV} (h:at4 a b=true):a=b:=by
 unfold at4 at h;split at h
 ·simp only [Ai] at h;rw [Aa h.1.1,Aa h.1.2,avc h.2]
 ·exact ap5 h
@[reducible] def Shape.get:(s:Shape)->SV->Option s.ty
 | .bool,.bool b=>some b
 | .int k,.int z n=>bif decide (k=z) then some n else none
 | .str,.str s=>some s
 | .slice E,.slice h xs=>bif Nat.beq E h then some xs else none
 | .data T,.data o v=>bif Nat.beq T o then some v else none
 | .map K E,.map H h es=>bif Nat.beq K H&&Nat.beq E h then some es else none
 | .acc k E,.acc z 0 h xs=>bif Nat.beq k z&&Nat.beq E h then some xs else none
 | .pto T,.pto o v=>bif Nat.beq T o then some v else none
 | .raw,.raw v=>some v
 | .eif,.eif b=>some b
 | .ifc T,.ifc o (.data I v)=>bif Nat.beq T o&&Nat.beq T I then some v else none
 | .con c,s=>bif at4 s c then some () else none
 | _,_=>none
theorem aa0 {o:Type}{b:Bool}{x y:o} (h:(bif b then some x else none)=some y):b=true/\x=y:=by
 cases b with
 | true=>simp at h;exact ⟨rfl,h⟩
 | false=>simp at h
theorem Shape.get_spec {I:Shape}{s:SV}{x:I.ty} (h:I.get s=some x):s=I.enc x:=by
 unfold Shape.get at h;split at h
 ·cases h;rfl
 ·obtain ⟨o,rfl⟩:=aa0 h;have:=of_decide_eq_true o;subst this;rfl
 ·cases h;rfl
 ·obtain ⟨o,rfl⟩:=aa0 h;have:=Aa o;subst this;rfl
 ·obtain ⟨o,rfl⟩:=aa0 h;have:=Aa o;subst this;rfl
 ·obtain ⟨o,rfl⟩:=aa0 h;simp only [Ai] at o;have z:=Aa o.1;have H:=Aa o.2;subst z;subst H;rfl
 ·obtain ⟨o,rfl⟩:=aa0 h;simp only [Ai] at o;have z:=Aa o.1;have H:=Aa o.2;subst z;subst H;rfl
 ·obtain ⟨o,rfl⟩:=aa0 h;have:=Aa o;subst this;rfl
 ·cases h;rfl
 ·cases h;rfl
 ·obtain ⟨o,rfl⟩:=aa0 h;simp only [Ai] at o;have z:=Aa o.1;have H:=Aa o.2;subst z;subst H;rfl
 ·obtain ⟨o,J⟩:=aa0 h;have:=axk o;subst this;show _=unGd _;unfold unGd;split
  ·simp [at4,ap4] at o
  ·rfl
 ·cases h
@[reducible] def TyL:List Shape->Type
 | []=>Unit
 | [s]=>s.ty
 | s::t::r=>s.ty×TyL (t::r)
def encL:(l:List Shape)->TyL l->List SV
 | [],_=>[]
 | [s],x=>[s.enc x]
 | s::t::r,x=>s.enc x.1::encL (t::r) x.2
def getL:(l:List Shape)->List SV->Option (TyL l)
 | [],[]=>some ()
 | [s],[v]=>s.get v
 | s::t::r,v::vs=>match s.get v,getL (t::r) vs with | some x,some y=>some (x,y) | _,_=>none
 | _,_=>none
theorem aqo:∀ (l:List Shape) (o:List SV) (x:TyL l),getL l o=some x->o=encL l x:=by
 intro l;induction l with
 | nil=>intro o x h;cases o with | nil=>rfl | cons=>simp [getL] at h
 | cons s r J=>
  intro o x h;cases r with
  | nil=>
   match o with
   | []=>simp [getL] at h
   | [v]=>simp only [getL] at h;simp only [encL];rw [Shape.get_spec h]
   | _::_::_=>simp [getL] at h
  | cons t r=>
   match o with
   | []=>simp [getL] at h
   | v::o=>
    simp only [getL] at h;split at h
    ·rename_i y z H I;simp only [Al] at h;subst h;show v::o=_::_;rw [J o z I,Shape.get_spec H]
    ·cases h
theorem a5g:∀ (l:List Shape) (x:TyL l),(encL l x).length=l.length:=by
 intro l;induction l with
 | nil=>intro x;rfl
 | cons s r h=>
  intro x;cases r with
  | nil=>rfl
  | cons t r=>show (encL (t::r) x.2).length+1=_;rw [h];rfl
theorem aue (H:Shape) (x:H.ty) (u:Nat) (o:Bool) (y:SV):H.enc x≠.gd u o y:=by
 cases H<;>simp only [Shape.enc]<;>first | exact (by intro h;cases h) | skip
 unfold unGd;split
 ·intro h;cases h
 ·rename_i z;exact λh=>z _ _ _ h
theorem axw:∀ (l:List Shape) (x:TyL l) (u:Nat) (o:Bool) (y:SV),SV.gd u o y∉encL l x:=by
 intro l;induction l with
 | nil=>intro x u o y h;simp [encL] at h
 | cons s r z=>
  intro x u o y h;cases r with
  | nil=>simp only [encL,List.mem_singleton] at h;exact aue s x u o y h.symm
  | cons t r=>
   simp only [encL,Bl] at h;rcases h with h | h
   ·exact aue s x.1 u o y h.symm
   ·exact z x.2 u o y h
inductive Pat where
 | leaf
 | agg (T:TypeId) (ps:List Pat)
inductive BSh where
 | box (T:TypeId) (p:Pat)
 | acc
 | map (K E:TypeId)
 | iter
 | bld (T:TypeId)
 | arr (E:TypeId) (fl:Nat)
 | mit (K E:TypeId)
def aiq:List Nat->List SV->Env
 | t::ts,v::vs=>λu=>bif Nat.beq u t then v else aiq ts vs u
 | _,_=>λ_=>.undef
mutual
def Pat.build:Pat->List SV->SV×List SV
 | .leaf,v::h=>(v,h)
 | .leaf,[]=>(.undef,[])
 | .agg T o,h=>(.agg T (ahz o h).1,(ahz o h).2)
def ahz:List Pat->List SV->List SV×List SV
 | [],vs=>([],vs)
 | p::ps,vs=>((p.build vs).1::(ahz ps (p.build vs).2).1,(ahz ps (p.build vs).2).2)
end
def toSt:List BSh->List SV->List BX
 | .acc::r,h=>.acc 0::toSt r h
 | .box T p::r,h=>.box T (p.build h).1::toSt r (p.build h).2
 | .map K E::r,v::h=>.map K E (match v with | .map _ _ es=>es | _=>[])::toSt r h
 | .iter::r,v::u::h=>.iter (match v with | .str s=>s | _=>[]) (match u with | .int _ n=>n.toNat | _=>0)::toSt r h
 | .bld T::r,v::h=>.bld T (match v with | .str s=>s | _=>[])::toSt r h
 | .arr E o::r,v::h=>.arr E o (match v with | .slice _ xs=>xs | _=>[])::toSt r h
 | .mit K E::r,v::h=>.mit K E (match v with | .map _ _ es=>es | _=>[])::toSt r h
 | _,_=>[]
def a0p (bs:List BSh) (k:Nat):Bool:=match bs[k]? with | some .acc=>true | _=>false
def a7c (bs:List BSh) (k:Nat):Bool:=match bs[k]? with | some (.box _ _)=>true | _=>false
def a7x (bs:List BSh) (k:Nat):Bool:=match bs[k]? with | some (.map _ _)=>true | _=>false
def a4f (bs:List BSh) (k:Nat):Bool:=match bs[k]? with | some .iter=>true | _=>false
def a8a (bs:List BSh) (k:Nat):Bool:=match bs[k]? with | some (.mit _ _)=>true | _=>false
def a7b (bs:List BSh) (k:Nat):Bool:=match bs[k]? with | some (.bld _)=>true | _=>false
def ajr (bs:List BSh) (s:SV):Bool:=
 match s with
 | .ref k _ _=>a7c bs k
 | .mref k=>a7x bs k
 | .mitr k=>a8a bs k
 | .iref k=>a4f bs k
 | .bref k _=>a7b bs k
 | .nils=>true
 | _=>false
def ao1 (bs:List BSh) (s:SV):Bool:=
 match s with
 | .fn _ _ cs=>cs.all (ajr bs)
 | s=>ajr bs s
def at2 (bs:List BSh) (k h:Nat) (E:TypeId):Bool:=match bs[k]? with | some (.arr E' fl')=>Nat.beq E E'&&Nat.beq h fl' | _=>false
def aiz (P:Program) (st:List BX) (bs:List BSh) (H:Shape) (s:SV):Option SV:=
 match H with
 | .acc k E=>
  match s with
  | .acc z g o xs=>bif Nat.beq k z&&Nat.beq E o&&amw st k g&&a0p bs k then some (.acc k 0 E xs) else none
  | .nils=>bif a0p bs k then some (.acc k 0 E []) else none
  | _=>none
 | .slice E=>match s with | .nils=>some (.slice E []) | s=>ajm P none s
 | .con c=>
  match c with
  | .arr k h E=>
   match s with
   | .arr z g o=>bif Nat.beq k z&&Nat.beq E o&&aek st k g&&at2 bs k h E then some (.arr k h E) else none
   | .nils=>bif at2 bs k h E&&Nat.ble st.length k then some (.arr k h E) else none
   | _=>none
  | _=>bif ao1 bs s then some s else none
 | .ifc _=>match s with | .ifc T x=>(match ajm P none x with | some y=>some (.ifc T y) | none=>none) | _=>none
 | _=>ajm P none s
def afh (P:Program) (st:List BX) (bs:List BSh) (e:Env):List Nat->List Shape->Option (List SV)
 | [],_=>some []
 | t::ts,sh::shs=>match aiz P st bs sh (e t),afh P st bs e ts shs with | some v,some vs=>some (v::vs) | _,_=>none
 | _::_,[]=>none
mutual
def agb (P:Program) (st:List BX) (bs:List BSh):Pat->SV->List Shape->Option (List SV×List Shape)
 | .leaf,s,sh::h=>match aiz P st bs sh s with | some v=>some ([v],h) | none=>none
 | .leaf,_,[]=>none
 | .agg T o,s,h=>match aga P T s with | some fs=>aeg P st bs o fs h | none=>none
def aeg (P:Program) (st:List BX) (bs:List BSh):List Pat->List SV->List Shape->Option (List SV×List Shape)
 | [],[],shs=>some ([],shs)
 | p::ps,s::ss,shs=>
  match agb P st bs p s shs with
  | some (o,h)=>match aeg P st bs ps ss h with | some (ws,shs2)=>some (o++ws,shs2) | none=>none
  | none=>none
 | _,_,_=>none
end
def aeu (P:Program) (z:List BX) (o:List BSh):List BSh->List BX->List Shape->Option (List SV)
 | [],_,_=>some []
 | .acc::r,[],h=>aeu P z o r [] h
 | .acc::r,.acc _::st,h=>aeu P z o r st h
 | .box T p::r,.box O s::st,h=>
  bif Nat.beq T O then
   match agb P z o p s h with
   | some (H,J)=>match aeu P z o r st J with | some ws=>some (H++ws) | none=>none
   | none=>none
  else none
 | .map K E::r,.map M I es::st,_::h=>bif Nat.beq K M&&Nat.beq E I then (match aeu P z o r st h with | some H=>some (.map K E es::H) | _=>none) else none
 | .iter::r,.iter s p::st,_::_::h=>(match aeu P z o r st h with | some H=>some (.str s::.int .i64 p::H) | _=>none)
 | .bld T::r,.bld O s::st,_::h=>bif Nat.beq T O then (match aeu P z o r st h with | some H=>some (.str s::H) | _=>none) else none
 | .arr E _::r,[],_::h=>(match aeu P z o r [] h with | some H=>some (.slice E []::H) | _=>none)
 | .arr E Z::r,.arr I g xs::st,_::h=>bif Nat.beq E I&&(bif Nat.beq Z 0 then Nat.beq g 0 else true) then (match aeu P z o r st h with | some H=>some (.slice E xs::H) | _=>none) else none
 | .mit K E::r,.mit M I es::st,_::h=>bif Nat.beq K M&&Nat.beq E I then (match aeu P z o r st h with | some H=>some (.map K E es::H) | _=>none) else none
 | _,_,_=>none
structure Frame where
 slots:List Nat
 bs:List BSh
 sh:List Shape
@[reducible] def Frame.ty (F:Frame):Type:=TyL F.sh
def Frame.env (F:Frame) (x:F.ty):Env:=aiq F.slots (encL F.sh x)
def Frame.st (F:Frame) (x:F.ty):List BX:=toSt F.bs ((encL F.sh x).drop F.slots.length)
def Frame.dec (F:Frame) (P:Program) (e:Env) (st:List BX):Option F.ty:=
 match afh P st F.bs e F.slots F.sh,aeu P st F.bs F.bs st (F.sh.drop F.slots.length) with
 | some o,some h=>getL F.sh (o++h)
 | _,_=>none
theorem avl:∀ (H:List Nat) (z:List SV),(∀ u o y,SV.gd u o y∉z)->NoGd (aiq H z):=by
 intro H;induction H with
 | nil=>intro z _ t u o x h;simp [aiq] at h
 | cons t H Z=>
  intro z J M u o x h;cases z with
  | nil=>simp [aiq] at h
  | cons v z=>
   simp only [aiq] at h;cases I:Nat.beq M t with
   | true=>rw [I] at h;simp only [Af] at h;exact J u o x (by rw [h];simp)
   | false=>rw [I] at h;exact Z z (λu o y O=>J u o y (List.mem_cons_of_mem _ O)) M u o x h
theorem Frame.noGd (F:Frame) (x:F.ty):NoGd (F.env x):=avl _ _ (axw F.sh x)
theorem am6 {P:Program}{st:List BX}{bs:List BSh}{e:Env}:∀ (z:List Nat) (o:List Shape) (H:List SV),afh P st bs e z o=some H->H.length=z.length/\∀ t,aiq z H t=.undef\/∃ I,aiz P st bs I (e t)=some (aiq z H t):=by
 intro z;induction z with
 | nil=>intro o H h;simp [afh] at h;subst h;exact ⟨rfl,λt=>Or.inl rfl⟩
 | cons t z ih=>
  intro o H h;cases o with
  | nil=>simp [afh] at h
  | cons I o=>
   simp only [afh] at h;split at h
   ·rename_i v J M O;cases h;obtain ⟨l,hh⟩:=ih o J O;refine ⟨by simp [l],λu=>?_⟩;simp only [aiq];cases Z:Nat.beq u t with
    | true=>have:=Aa Z;subst this;exact Or.inr ⟨I,M⟩
    | false=>exact hh u
   ·cases h
mutual
theorem ag1 {P:Program}{st:List BX}{bs:List BSh}:∀ (p:Pat) (s:SV) (H:List Shape) (I:List SV) (z:List Shape) (o:List SV),agb P st bs p s H=some (I,z)->(p.build (I++o)).2=o
 | .leaf,s,sh::H,I,z,o,h=>by
  simp only [agb] at h;split at h
  ·simp only [Al,Prod.mk.injEq] at h;obtain ⟨rfl,rfl⟩:=h;rfl
  ·cases h
 | .leaf,s,[],I,z,o,h=>by simp [agb] at h
 | .agg T M,s,H,I,z,o,h=>by
  simp only [agb] at h;split at h
  ·rename_i J _;exact ai0 M J H I z o h
  ·cases h
theorem ai0 {P:Program}{st:List BX}{bs:List BSh}:∀ (M:List Pat) (O:List SV) (H:List Shape) (J:List SV) (z:List Shape) (o:List SV),aeg P st bs M O H=some (J,z)->(ahz M (J++o)).2=o
 | [],[],H,J,z,o,h=>by simp only [aeg,Al,Prod.mk.injEq] at h;obtain ⟨rfl,rfl⟩:=h;rfl
 | [],_::_,H,J,z,o,h=>by simp [aeg] at h
 | _::_,[],H,J,z,o,h=>by simp [aeg] at h
 | p::M,s::O,H,J,z,o,h=>by
  simp only [aeg] at h;split at h
  ·rename_i Z I h1;split at h
   ·rename_i ws aa h2;simp only [Al,Prod.mk.injEq] at h;obtain ⟨rfl,rfl⟩:=h;simp only [ahz,Ap];rw [ag1 p s H Z I (ws++o) h1];exact ai0 M O I ws _ o h2
   ·cases h
  ·cases h
end
structure StFit (P:Program) (st0:List BX) (bs0 bs:List BSh) (st st':List BX):Prop where
 len:st'.length=bs.length
 acc:∀ (k:Nat),bs[k]?=some .acc->st'[k]?=some (.acc 0)/\((∃ (g:Nat),st[k]?=some (.acc g))\/st.length<=k)
 box:∀ (k:Nat) (T:TypeId) (p:Pat),bs[k]?=some (.box T p)->∃ (s:SV) (vs rest:List SV) (shs shs':List Shape),st[k]?=some (.box T s)/\agb P st0 bs0 p s shs=some (vs,shs')/\st'[k]?=some (.box T (p.build (vs++rest)).1)
 map:∀ (k:Nat) (K E:TypeId),bs[k]?=some (.map K E)->∃ (es:List (PV×PV)),st[k]?=some (.map K E es)/\st'[k]?=some (.map K E es)
 iter:∀ (k:Nat),bs[k]?=some .iter->∃ (s:Bq) (p:Nat),st[k]?=some (.iter s p)/\st'[k]?=some (.iter s p)
 bld:∀ (k:Nat) (T:TypeId),bs[k]?=some (.bld T)->∃ (s:Bq),st[k]?=some (.bld T s)/\st'[k]?=some (.bld T s)
 arr:∀ (k:Nat) (E:TypeId) (fl:Nat),bs[k]?=some (.arr E fl)->∃ (xs:List PV),st'[k]?=some (.arr E fl xs)/\((∃ g,st[k]?=some (.arr E g xs)/\(fl=0->g=0))\/(st.length<=k/\xs=[]))
 mit:∀ (k:Nat) (K E:TypeId),bs[k]?=some (.mit K E)->∃ (es:List (PV×PV)),st[k]?=some (.mit K E es)/\st'[k]?=some (.mit K E es)
theorem StFit.cons {P:Program}{Z:List BX}{O r:List BSh}{st st':List BX}{b:BSh}{x y:BX} (f:StFit P Z O r st st') (ha:b=.acc->y=.acc 0/\∃ g,x=.acc g)
 (hb:∀ T p,b=.box T p->∃ (s:SV) (vs H:List SV) (J I:List Shape),x=.box T s/\agb P Z O p s J=some (vs,I)/\y=.box T (p.build (vs++H)).1)
 (hm:∀ K E,b=.map K E->∃ es,x=.map K E es/\y=.map K E es) (hi:b=.iter->∃ s p,x=.iter s p/\y=.iter s p) (hl:∀ T,b=.bld T->∃ s,x=.bld T s/\y=.bld T s) (hr:∀ E fl,b=.arr E fl->∃ xs,y=.arr E fl xs/\∃ g,x=.arr E g xs/\(fl=0->g=0)) (hq:∀ K E,b=.mit K E->∃ es,x=.mit K E es/\y=.mit K E es):StFit P Z O (b::r) (x::st) (y::st'):=by
 refine ⟨by simp [f.len],λk z=>?_,λk T p z=>?_,λk K E z=>?_,λk z=>?_,λk T z=>?_,λk E fl z=>?_,λk K E z=>?_⟩
 ·cases k with
  | zero=>obtain ⟨o,g,h⟩:=ha (by simpa using z);exact ⟨by simp [o],Or.inl ⟨g,by simp [h]⟩⟩
  | succ k=>obtain ⟨o,h⟩:=f.acc k (by simpa using z);exact ⟨by simpa using o,by simpa using h⟩
 ·cases k with
  | zero=>obtain ⟨s,vs,H,J,I,o,h,M⟩:=hb T p (by simpa using z);exact ⟨s,vs,H,J,I,by simp [o],h,by simp [M]⟩
  | succ k=>obtain ⟨s,vs,H,J,I,o,h,M⟩:=f.box k T p (by simpa using z);exact ⟨s,vs,H,J,I,by simpa using o,h,by simpa using M⟩
 ·cases k with
  | zero=>obtain ⟨es,o,h⟩:=hm K E (by simpa using z);exact ⟨es,by simp [o],by simp [h]⟩
  | succ k=>obtain ⟨es,o,h⟩:=f.map k K E (by simpa using z);exact ⟨es,by simpa using o,by simpa using h⟩
 ·cases k with
  | zero=>obtain ⟨s,p,o,h⟩:=hi (by simpa using z);exact ⟨s,p,by simp [o],by simp [h]⟩
  | succ k=>obtain ⟨s,p,o,h⟩:=f.iter k (by simpa using z);exact ⟨s,p,by simpa using o,by simpa using h⟩
 ·cases k with
  | zero=>obtain ⟨s,o,h⟩:=hl T (by simpa using z);exact ⟨s,by simp [o],by simp [h]⟩
  | succ k=>obtain ⟨s,o,h⟩:=f.bld k T (by simpa using z);exact ⟨s,by simpa using o,by simpa using h⟩
 ·cases k with
  | zero=>obtain ⟨s,o,g,h,M⟩:=hr E fl (by simpa using z);exact ⟨s,by simp [o],Or.inl ⟨g,by simp [h],M⟩⟩
  | succ k=>
   obtain ⟨s,o,h⟩:=f.arr k E fl (by simpa using z);refine ⟨s,by simpa using o,?_⟩;rcases h with ⟨g,h,M⟩ | ⟨h,M⟩
   ·exact Or.inl ⟨g,by simpa using h,M⟩
   ·exact Or.inr ⟨by simpa using h,M⟩
 ·cases k with
  | zero=>obtain ⟨es,o,h⟩:=hq K E (by simpa using z);exact ⟨es,by simp [o],by simp [h]⟩
  | succ k=>obtain ⟨es,o,h⟩:=f.mit k K E (by simpa using z);exact ⟨es,by simpa using o,by simpa using h⟩
theorem al9 {P:Program}{ae:List BX}{ab:List BSh}:∀ (bs:List BSh) (st:List BX) (Z:List Shape) (us:List SV),aeu P ae ab bs st Z=some us->StFit P ae ab bs st (toSt bs us):=by
 intro bs;induction bs with
 | nil=>intro st Z us h;simp [aeu] at h;subst h;exact ⟨rfl,λk h=>by simp at h,λk T p h=>by simp at h,λk K E h=>by simp at h,λk h=>by simp at h,λk T h=>by simp at h,λk E O h=>by simp at h,λk K E h=>by simp at h⟩
 | cons b r ih=>
  intro st Z us h;unfold aeu at h;split at h
  ·contradiction
  ·rename_i H;injection H with o z;subst o;subst z;have f:=ih [] _ us h;refine ⟨by simp [toSt,f.len],λk I=>?_,λk T p I=>?_,λk K E I=>?_,λk I=>?_,λk T I=>?_,λk E O I=>?_,λk K E I=>?_⟩
   ·cases k with
    | zero=>exact ⟨rfl,Or.inr (by simp)⟩
    | succ k=>obtain ⟨o,z⟩:=f.acc k (by simpa using I);exact ⟨by simpa [toSt] using o,Or.inr (by simp)⟩
   ·cases k with
    | zero=>simp at I
    | succ k=>obtain ⟨s,M,ad,Z,J,o,_⟩:=f.box k T p (by simpa using I);simp at o
   ·cases k with
    | zero=>simp at I
    | succ k=>obtain ⟨s,o,_⟩:=f.map k K E (by simpa using I);simp at o
   ·cases k with
    | zero=>simp at I
    | succ k=>obtain ⟨s,p,o,_⟩:=f.iter k (by simpa using I);simp at o
   ·cases k with
    | zero=>simp at I
    | succ k=>obtain ⟨s,o,_⟩:=f.bld k T (by simpa using I);simp at o
   ·cases k with
    | zero=>simp at I
    | succ k=>
     obtain ⟨s,o,z⟩:=f.arr k E O (by simpa using I);rcases z with ⟨g,z,_⟩ | ⟨_,h3⟩
     ·simp at z
     ·exact ⟨s,by simpa [toSt] using o,Or.inr ⟨by simp,h3⟩⟩
   ·cases k with
    | zero=>simp at I
    | succ k=>obtain ⟨s,o,_⟩:=f.mit k K E (by simpa using I);simp at o
  ·rename_i H;injection H with o z;subst o;subst z;exact (ih _ _ us h).cons (λ_=>⟨rfl,_,rfl⟩) (λT p e=>by cases e) (λK E e=>by cases e) (λe=>by cases e) (λT e=>by cases e) (λE O e=>by cases e) (λK E e=>by cases e)
  ·rename_i T p r' T' s st' H;injection H with o z;subst o;subst z;cases H:Nat.beq T T' with
   | false=>rw [H] at h;cases h
   | true=>
    rw [H] at h;have:=Aa H;subst this;simp only [Af] at h;split at h
    ·rename_i M aa o;split at h
     ·rename_i ws z;cases h;have e:toSt (.box T p::r) (M++ws)=.box T (p.build (M++ws)).1::toSt r ws:=by
       show _::toSt r (p.build (M++ws)).2=_;rw [ag1 p s _ M aa ws o]
      rw [e];exact (ih _ _ ws z).cons (λe=>by cases e) (λT p e=>by cases e;exact ⟨s,M,ws,_,aa,rfl,o,rfl⟩) (λK E e=>by cases e) (λe=>by cases e) (λT e=>by cases e) (λE O e=>by cases e) (λK E e=>by cases e)
     ·cases h
    ·cases h
  ·rename_i K E r' K' E' es st' sh J H;injection H with o z;subst o;subst z;cases H:(Nat.beq K K'&&Nat.beq E E') with
   | false=>rw [H] at h;cases h
   | true=>
    rw [H] at h;simp only [Ai] at H;have:=Aa H.1;subst this;have:=Aa H.2;subst this;simp only [Af] at h;split at h
    ·rename_i M z;cases h;exact (ih _ _ M z).cons (λe=>by cases e) (λT p e=>by cases e) (λK E e=>by cases e;exact ⟨es,rfl,rfl⟩) (λe=>by cases e) (λT e=>by cases e) (λE O e=>by cases e) (λK E e=>by cases e)
    ·cases h
  ·rename_i r' s p st' sh ag J H;injection H with o z;subst o;subst z;split at h
   ·rename_i M z;cases h;exact (ih _ _ M z).cons (λe=>by cases e) (λT p e=>by cases e) (λK E e=>by cases e) (λ_=>⟨s,p,rfl,by simp⟩) (λT e=>by cases e) (λE O e=>by cases e) (λK E e=>by cases e)
   ·cases h
  ·rename_i T r' T' s st' sh J H;injection H with o z;subst o;subst z;cases H:Nat.beq T T' with
   | false=>rw [H] at h;cases h
   | true=>
    rw [H] at h;have:=Aa H;subst this;simp only [Af] at h;split at h
    ·rename_i M z;cases h;exact (ih _ _ M z).cons (λe=>by cases e) (λT p e=>by cases e) (λK E e=>by cases e) (λe=>by cases e) (λT e=>by cases e;exact ⟨s,rfl,rfl⟩) (λE O e=>by cases e) (λK E e=>by cases e)
    ·cases h
  ·rename_i E O r' sh J H;injection H with o z;subst o;subst z;split at h;case h_2=>cases h
   rename_i M z;cases h;have f:=ih [] _ M z;refine ⟨by simp [toSt,f.len],λk I=>?_,λk T p I=>?_,λk K E I=>?_,λk I=>?_,λk T I=>?_,λk E' af I=>?_,λk K E I=>?_⟩
   ·cases k with
    | zero=>simp at I
    | succ k=>obtain ⟨o,z⟩:=f.acc k (by simpa using I);exact ⟨by simpa [toSt] using o,Or.inr (by simp)⟩
   ·cases k with
    | zero=>simp at I
    | succ k=>obtain ⟨s,M,ad,Z,J,o,_⟩:=f.box k T p (by simpa using I);simp at o
   ·cases k with
    | zero=>simp at I
    | succ k=>obtain ⟨s,o,_⟩:=f.map k K E (by simpa using I);simp at o
   ·cases k with
    | zero=>simp at I
    | succ k=>obtain ⟨s,p,o,_⟩:=f.iter k (by simpa using I);simp at o
   ·cases k with
    | zero=>simp at I
    | succ k=>obtain ⟨s,o,_⟩:=f.bld k T (by simpa using I);simp at o
   ·cases k with
    | zero=>simp at I;obtain ⟨rfl,rfl⟩:=I;exact ⟨[],by simp [toSt],Or.inr ⟨by simp,rfl⟩⟩
    | succ k=>
     obtain ⟨s,o,z⟩:=f.arr k E' af (by simpa using I);rcases z with ⟨g,z,_⟩ | ⟨_,h3⟩
     ·simp at z
     ·exact ⟨s,by simpa [toSt] using o,Or.inr ⟨by simp,h3⟩⟩
   ·cases k with
    | zero=>simp at I
    | succ k=>obtain ⟨s,o,_⟩:=f.mit k K E (by simpa using I);simp at o
  ·rename_i E O r' E' g xs st' sh J H;injection H with o z;subst o;subst z;cases H:(Nat.beq E E'&&(bif Nat.beq O 0 then Nat.beq g 0 else true)) with
   | false=>rw [H] at h;cases h
   | true=>
    rw [H] at h;simp only [Ai] at H;have:=Aa H.1;subst this;have hg:O=0->g=0:=by intro e;have z:=H.2;rw [e] at z;exact Aa z
    simp only [Af] at h;split at h
    ·rename_i M z;cases h;exact (ih _ _ M z).cons (λe=>by cases e) (λT p e=>by cases e) (λK E e=>by cases e) (λe=>by cases e) (λT e=>by cases e) (λE O e=>by cases e;exact ⟨xs,by simp,g,rfl,hg⟩) (λK E e=>by cases e)
    ·cases h
  ·rename_i K E r' K' E' es st' sh J H;injection H with o z;subst o;subst z;cases H:(Nat.beq K K'&&Nat.beq E E') with
   | false=>rw [H] at h;cases h
   | true=>
    rw [H] at h;simp only [Ai] at H;have:=Aa H.1;subst this;have:=Aa H.2;subst this;simp only [Af] at h;split at h
    ·rename_i M z;cases h;exact (ih _ _ M z).cons (λe=>by cases e) (λT p e=>by cases e) (λK E e=>by cases e) (λe=>by cases e) (λT e=>by cases e) (λE O e=>by cases e) (λK E e=>by cases e;exact ⟨es,rfl,rfl⟩)
    ·cases h
  ·cases h
end Go.Ab
