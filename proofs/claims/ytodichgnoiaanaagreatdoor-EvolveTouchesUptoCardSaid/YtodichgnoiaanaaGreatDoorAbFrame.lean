/- States in one form, with typed parts. -/
import Derived.Test.YtodichgnoiaanaaGreatDoorAbCode
set_option linter.unusedVariables false
set_option linter.unusedSimpArgs false
set_option linter.unnecessarySimpa false
namespace Go.Ab
open Go
inductive Shape where
 | bool
 | int (k:IntKind)
 | str
 | slice (E:TypeId)
 | data (T:TypeId)
 | map (K E:TypeId)
 | acc (k:Nat) (E:TypeId)
 | pto (T:TypeId)
 | raw
 | eif
 | ifc (T:TypeId)
 | ifs (T E:TypeId)
 | sln (E:TypeId)
 | con (s:SV)
@[reducible] def Shape.ty:Shape->Type
 | .bool=>Bool
 | .int _=>Int
 | .str=>Bo
 | .slice _=>List PV
 | .data _=>PV
 | .map _ _=>List (PV×PV)
 | .acc _ _=>List PV
 | .pto _=>PV
 | .raw=>Value
 | .eif=>Bool
 | .ifc _=>PV
 | .ifs _ _=>List PV
 | .sln _=>List PV
 | .con _=>Unit
def unGd (s:SV):SV:=match s with | .gd _ _ _=>.undef | s=>s
@[reducible] def Shape.enc:(s:Shape)->s.ty->SV
 | .bool,b=>.bool b
 | .int k,n=>.int k n
 | .str,s=>.str s
 | .slice E,xs=>.slice E xs
 | .data T,v=>.data T v
 | .map K E,es=>.map K E es
 | .acc k E,xs=>.acc k 0 E xs
 | .pto T,v=>.pto T v
 | .raw,v=>.raw v
 | .eif,b=>.eif b
 | .ifc T,v=>.ifc T (.data T v)
 | .ifs T E,xs=>.ifc T (.slice E xs)
 | .sln E,xs=>.sln E xs
 | .con c,_=>unGd c
def beqN:List Nat->List Nat->Bool
 | [],[]=>true
 | x::r,y::q=>Nat.beq x y&&beqN r q
 | _,_=>false
theorem bbt:∀ {a b:List Nat},beqN a b=true->a=b:=by
 intro a;induction a with
 | nil=>grind [beqN]
 | cons x r o=>
  intro b h;cases b with
  | nil=>simp [beqN] at h
  | cons y q=>simp only [beqN,Aj] at h;grind [Nat.eq_of_beq_eq_true]
def ap8 (a b:SV):Bool:=
 match a,b with
 | .ref k p T,.ref h p' o=>Nat.beq k h&&beqN p p'&&Nat.beq T o
 | .mref k,.mref h=>Nat.beq k h
 | .mitr k,.mitr h=>Nat.beq k h
 | .iref k,.iref h=>Nat.beq k h
 | .bref k T,.bref h o=>Nat.beq k h&&Nat.beq T o
 | .nils,.nils=>true
 | .arr k g E,.arr h H z=>Nat.beq k h&&Nat.beq g H&&Nat.beq E z
 | _,_=>false
theorem anl {a b:SV} (h:ap8 a b=true):a=b:=by
 unfold ap8 at h;split at h
 ·simp only [Aj] at h;all_goals grind [Nat.eq_of_beq_eq_true,bbt]
 all_goals simp_all
def ak6:List SV->List SV->Bool
 | [],[]=>true
 | x::r,y::q=>ap8 x y&&ak6 r q
 | _,_=>false
theorem azl:∀ {a b:List SV},ak6 a b=true->a=b:=by
 intro a;induction a with
 | nil=>grind [ak6]
 | cons x r o=>
  intro b h;cases b with
  | nil=>simp [ak6] at h
  | cons y q=>simp only [ak6,Aj] at h;grind [anl]
def ax5 (a b:SV):Bool:=
 match a,b with
 | .fn f n cs,.fn z H h=>Nat.beq f z&&Nat.beq n H&&ak6 cs h
 | .ifc T a,.ifc o b=>Nat.beq T o&&ap8 a b
 | a,b=>ap8 a b
theorem a2a {a b:SV} (h:ax5 a b=true):a=b:=by
 unfold ax5 at h;split at h
 ·simp only [Aj] at h;grind [Nat.eq_of_beq_eq_true,azl]
 ·simp only [Aj] at h;grind [Nat.eq_of_beq_eq_true,anl]
 ·exact anl h
@[reducible] def Shape.get:(s:Shape)->SV->Option s.ty
 | .bool,.bool b=>some b
 | .int k,.int z n=>bif decide (k=z) then some n else none
 | .str,.str s=>some s
 | .slice E,.slice h xs=>bif Nat.beq E h then some xs else none
 | .data T,.data o v=>bif Nat.beq T o then some v else none
 | .map K E,.map H h es=>bif Nat.beq K H&&Nat.beq E h then some es else none
 | .acc k E,.acc z 0 h xs=>bif Nat.beq k z&&Nat.beq E h then some xs else none
 | .pto T,.pto o v=>bif Nat.beq T o then some v else none
 | .raw,.raw v=>some v
 | .eif,.eif b=>some b
 | .ifc T,.ifc o (.data I v)=>bif Nat.beq T o&&Nat.beq T I then some v else none
 | .ifs T E,.ifc o (.slice h xs)=>bif Nat.beq T o&&Nat.beq E h then some xs else none
 | .con c,s=>bif ax5 s c then some () else none
 | _,_=>none
theorem aaz {o:Type}{b:Bool}{x y:o} (h:(bif b then some x else none)=some y):b=true/\x=y:=by grind
theorem Shape.get_spec {z:Shape}{s:SV}{x:z.ty} (h:z.get s=some x):s=z.enc x:=by
 unfold Shape.get at h;split at h
 ·cases h;rfl
 ·grind
 ·cases h;rfl
 ·obtain ⟨o,rfl⟩:=aaz h;grind [Nat.eq_of_beq_eq_true]
 ·obtain ⟨o,rfl⟩:=aaz h;grind [Nat.eq_of_beq_eq_true]
 ·obtain ⟨o,rfl⟩:=aaz h;simp_all
 ·obtain ⟨o,rfl⟩:=aaz h;simp_all
 ·obtain ⟨o,rfl⟩:=aaz h;grind [Nat.eq_of_beq_eq_true]
 ·cases h;rfl
 ·cases h;rfl
 ·obtain ⟨o,rfl⟩:=aaz h;simp only [Aj] at o;grind [Nat.eq_of_beq_eq_true]
 ·obtain ⟨o,rfl⟩:=aaz h;simp_all
 ·obtain ⟨o,H⟩:=aaz h;have:=a2a o;subst this;show _=unGd _;unfold unGd;grind [ax5,ap8]
 ·cases h
@[reducible] def TyL:List Shape->Type
 | []=>Unit
 | [s]=>s.ty
 | s::t::r=>s.ty×TyL (t::r)
def encL:(l:List Shape)->TyL l->List SV
 | [],_=>[]
 | [s],x=>[s.enc x]
 | s::t::r,x=>s.enc x.1::encL (t::r) x.2
def getL:(l:List Shape)->List SV->Option (TyL l)
 | [],[]=>some ()
 | [s],[v]=>s.get v
 | s::t::r,v::vs=>match s.get v,getL (t::r) vs with | some x,some y=>some (x,y) | _,_=>none
 | _,_=>none
theorem at0:∀ (l:List Shape) (o:List SV) (x:TyL l),getL l o=some x->o=encL l x:=by
 intro l;induction l with
 | nil=>intro o x h;cases o with | nil=>rfl | cons=>simp [getL] at h
 | cons s r J=>
  intro o x h;cases r with
  | nil=>
   match o with
   | []=>simp [getL] at h
   | [v]=>simp only [getL] at h;simp only [encL];rw [Shape.get_spec h]
   | _::_::_=>simp [getL] at h
  | cons t r=>
   match o with
   | []=>simp [getL] at h
   | v::o=>
    simp only [getL] at h;split at h
    ·rename_i y z H I;simp only [Ak] at h;subst h;show v::o=_::_;rw [J o z I,Shape.get_spec H]
    ·cases h
theorem bb2:∀ (l:List Shape) (x:TyL l),(encL l x).length=l.length:=by
 intro l;induction l with
 | nil=>intro x;rfl
 | cons s r h=>
  intro x;cases r with
  | nil=>rfl
  | cons t r=>grind [encL]
theorem ayh (z:Shape) (x:z.ty) (u:Nat) (o:Bool) (y:SV):z.enc x≠.gd u o y:=by
 cases z<;>simp only [Shape.enc]<;>first | exact (by intro h;cases h) | skip
 unfold unGd;grind
theorem a2o:∀ (l:List Shape) (x:TyL l) (u:Nat) (o:Bool) (y:SV),SV.gd u o y∉encL l x:=by
 intro l;induction l with
 | nil=>grind [encL]
 | cons s r z=>
  intro x u o y h;cases r with
  | nil=>grind [encL,List.mem_singleton,ayh]
  | cons t r=>grind [encL,ayh]
inductive Pat where
 | leaf
 | agg (T:TypeId) (ps:List Pat)
inductive BSh where
 | box (T:TypeId) (p:Pat)
 | acc
 | map (K E:TypeId)
 | iter
 | bld (T:TypeId)
 | arr (E:TypeId) (fl:Nat)
 | mit (K E:TypeId)
def aj6:List Nat->List SV->Env
 | t::ts,v::vs=>λu=>bif Nat.beq u t then v else aj6 ts vs u
 | _,_=>λ_=>.undef
mutual
def Pat.build:Pat->List SV->SV×List SV
 | .leaf,v::h=>(v,h)
 | .leaf,[]=>(.undef,[])
 | .agg T o,h=>(.agg T (ai3 o h).1,(ai3 o h).2)
def ai3:List Pat->List SV->List SV×List SV
 | [],vs=>([],vs)
 | p::ps,vs=>((p.build vs).1::(ai3 ps (p.build vs).2).1,(ai3 ps (p.build vs).2).2)
end
def toSt:List BSh->List SV->List BX
 | .acc::r,h=>.acc 0::toSt r h
 | .box T p::r,h=>.box T (p.build h).1::toSt r (p.build h).2
 | .map K E::r,v::h=>.map K E (match v with | .map _ _ es=>es | _=>[])::toSt r h
 | .iter::r,v::u::h=>.iter (match v with | .str s=>s | _=>[]) (match u with | .int _ n=>n.toNat | _=>0)::toSt r h
 | .bld T::r,v::h=>.bld T (match v with | .str s=>s | _=>[])::toSt r h
 | .arr E o::r,v::h=>.arr E o (match v with | .slice _ xs=>xs | _=>[])::toSt r h
 | .mit K E::r,v::h=>.mit K E none (match v with | .map _ _ es=>es | _=>[])::toSt r h
 | _,_=>[]
def a7e (bs:List BSh) (k:Nat):Bool:=match bs[k]? with | some .acc=>true | _=>false
def bdg (bs:List BSh) (k:Nat):Bool:=match bs[k]? with | some (.box _ _)=>true | _=>false
def bd7 (bs:List BSh) (k:Nat):Bool:=match bs[k]? with | some (.map _ _)=>true | _=>false
def bbc (bs:List BSh) (k:Nat):Bool:=match bs[k]? with | some .iter=>true | _=>false
def bea (bs:List BSh) (k:Nat):Bool:=match bs[k]? with | some (.mit _ _)=>true | _=>false
def bdf (bs:List BSh) (k:Nat):Bool:=match bs[k]? with | some (.bld _)=>true | _=>false
def alg (bs:List BSh) (s:SV):Bool:=
 match s with
 | .ref k _ _=>bdg bs k
 | .mref k=>bd7 bs k
 | .mitr k=>bea bs k
 | .iref k=>bbc bs k
 | .bref k _=>bdf bs k
 | .nils=>true
 | _=>false
def ary (bs:List BSh) (s:SV):Bool:=
 match s with
 | .fn _ _ cs=>cs.all (alg bs)
 | s=>alg bs s
def ap5 (bs:List BSh) (k h:Nat) (E:TypeId):Bool:=match bs[k]? with | some (.arr E' fl')=>Nat.beq E E'&&Nat.beq h fl' | _=>false
def akh (P:Program) (st:List BX) (bs:List BSh) (I:Shape) (s:SV):Option SV:=
 match I with
 | .acc k E=>
  match s with
  | .acc z g o xs=>bif Nat.beq k z&&Nat.beq E o&&anh st k g&&a7e bs k then some (.acc k 0 E xs) else none
  | .nils=>bif a7e bs k then some (.acc k 0 E []) else none
  | _=>none
 | .slice E=>match s with | .nils=>some (.slice E []) | s=>aj2 P none s
 | .con c=>
  match c with
  | .arr k h E=>
   match s with
   | .arr z g o=>bif Nat.beq k z&&Nat.beq E o&&afn st k g&&ap5 bs k h E then some (.arr k h E) else none
   | .nils=>bif ap5 bs k h E&&Nat.ble st.length k then some (.arr k h E) else none
   | _=>none
  | .ifc T (.arr k h E)=>
   match s with
   | .ifc H (.arr z g o)=>bif Nat.beq T H&&(Nat.beq k z&&Nat.beq E o&&afn st k g&&ap5 bs k h E) then some (.ifc T (.arr k h E)) else none
   | _=>none
  | _=>bif ary bs s then some s else none
 | .ifc _=>match s with | .ifc T x=>(match aj2 P none x with | some y=>some (.ifc T y) | none=>none) | _=>none
 | .ifs _ E=>match s with | .ifc T .nils=>some (.ifc T (.slice E [])) | .ifc T x=>(match aj2 P none x with | some y=>some (.ifc T y) | none=>none) | _=>none
 | _=>aj2 P none s
def agf (P:Program) (st:List BX) (bs:List BSh) (e:Env):List Nat->List Shape->Option (List SV)
 | [],_=>some []
 | t::ts,sh::shs=>match akh P st bs sh (e t),agf P st bs e ts shs with | some v,some vs=>some (v::vs) | _,_=>none
 | _::_,[]=>none
mutual
def ahc (P:Program) (st:List BX) (bs:List BSh):Pat->SV->List Shape->Option (List SV×List Shape)
 | .leaf,s,sh::h=>match akh P st bs sh s with | some v=>some ([v],h) | none=>none
 | .leaf,_,[]=>none
 | .agg T o,s,h=>match aha P T s with | some fs=>ae6 P st bs o fs h | none=>none
def ae6 (P:Program) (st:List BX) (bs:List BSh):List Pat->List SV->List Shape->Option (List SV×List Shape)
 | [],[],shs=>some ([],shs)
 | p::ps,s::ss,shs=>
  match ahc P st bs p s shs with
  | some (o,h)=>match ae6 P st bs ps ss h with | some (ws,shs2)=>some (o++ws,shs2) | none=>none
  | none=>none
 | _,_,_=>none
end
def afk (P:Program) (z:List BX) (o:List BSh):List BSh->List BX->List Shape->Option (List SV)
 | [],_,_=>some []
 | .acc::r,[],h=>afk P z o r [] h
 | .acc::r,.acc _::st,h=>afk P z o r st h
 | .box T p::r,.box O s::st,h=>
  bif Nat.beq T O then
   match ahc P z o p s h with
   | some (H,J)=>match afk P z o r st J with | some ws=>some (H++ws) | none=>none
   | none=>none
  else none
 | .map K E::r,.map M I es::st,_::h=>bif Nat.beq K M&&Nat.beq E I then (match afk P z o r st h with | some H=>some (.map K E es::H) | _=>none) else none
 | .iter::r,.iter s p::st,_::_::h=>(match afk P z o r st h with | some H=>some (.str s::.int .i64 p::H) | _=>none)
 | .bld T::r,.bld O s::st,_::h=>bif Nat.beq T O then (match afk P z o r st h with | some H=>some (.str s::H) | _=>none) else none
 | .arr E _::r,[],_::h=>(match afk P z o r [] h with | some H=>some (.slice E []::H) | _=>none)
 | .arr E Z::r,.arr I g xs::st,_::h=>bif Nat.beq E I&&(bif Nat.beq Z 0 then Nat.beq g 0 else true) then (match afk P z o r st h with | some H=>some (.slice E xs::H) | _=>none) else none
 | .mit K E::r,.mit M I _ es::st,_::h=>bif Nat.beq K M&&Nat.beq E I then (match afk P z o r st h with | some H=>some (.map K E es::H) | _=>none) else none
 | _,_,_=>none
structure Frame where
 slots:List Nat
 bs:List BSh
 sh:List Shape
@[reducible] def Frame.ty (F:Frame):Type:=TyL F.sh
def Frame.env (F:Frame) (x:F.ty):Env:=aj6 F.slots (encL F.sh x)
def Frame.st (F:Frame) (x:F.ty):List BX:=toSt F.bs ((encL F.sh x).drop F.slots.length)
def Frame.dec (F:Frame) (P:Program) (e:Env) (st:List BX):Option F.ty:=
 match agf P st F.bs e F.slots F.sh,afk P st F.bs F.bs st (F.sh.drop F.slots.length) with
 | some o,some h=>getL F.sh (o++h)
 | _,_=>none
theorem azw:∀ (H:List Nat) (z:List SV),(∀ u o y,SV.gd u o y∉z)->NoGd (aj6 H z):=by
 intro H;induction H with
 | nil=>intro z _ t u o x h;simp [aj6] at h
 | cons t H Z=>
  intro z O I u o x h;cases z with
  | nil=>simp [aj6] at h
  | cons v z=>
   simp only [aj6] at h;cases J:Nat.beq I t with
   | true=>grind
   | false=>rw [J] at h;exact Z z (λu o y M=>O u o y (List.mem_cons_of_mem _ M)) I u o x h
theorem Frame.noGd (F:Frame) (x:F.ty):NoGd (F.env x):=azw _ _ (a2o F.sh x)
theorem apt {P:Program}{st:List BX}{bs:List BSh}{e:Env}:∀ (z:List Nat) (o:List Shape) (H:List SV),agf P st bs e z o=some H->H.length=z.length/\∀ t,aj6 z H t=.undef\/∃ I,akh P st bs I (e t)=some (aj6 z H t):=by
 intro z;induction z with
 | nil=>intro o H h;simp [agf] at h;subst h;exact ⟨rfl,λt=>Or.inl rfl⟩
 | cons t z J=>
  intro o H h;cases o with
  | nil=>simp [agf] at h
  | cons I o=>grind [agf,aj6,Nat.beq,Nat.eq_of_beq_eq_true]
mutual
theorem ahx {P:Program}{st:List BX}{bs:List BSh}:∀ (p:Pat) (s:SV) (H:List Shape) (I:List SV) (z:List Shape) (o:List SV),ahc P st bs p s H=some (I,z)->(p.build (I++o)).2=o
 | .leaf,s,sh::H,I,z,o,h=>by
  simp only [ahc] at h;split at h
  ·simp only [Ak,Prod.mk.injEq] at h;obtain ⟨rfl,rfl⟩:=h;rfl
  ·cases h
 | .leaf,s,[],I,z,o,h=>by simp [ahc] at h
 | .agg T M,s,H,I,z,o,h=>by
  simp only [ahc] at h;split at h
  ·rename_i J _;exact aki M J H I z o h
  ·cases h
theorem aki {P:Program}{st:List BX}{bs:List BSh}:∀ (M:List Pat) (ss:List SV) (H:List Shape) (J:List SV) (z:List Shape) (o:List SV),ae6 P st bs M ss H=some (J,z)->(ai3 M (J++o)).2=o
 | [],[],H,J,z,o,h=>by simp only [ae6,Ak,Prod.mk.injEq] at h;obtain ⟨rfl,rfl⟩:=h;rfl
 | [],_::_,H,J,z,o,h=>by simp [ae6] at h
 | _::_,[],H,J,z,o,h=>by simp [ae6] at h
 | p::M,s::ss,H,J,z,o,h=>by
  simp only [ae6] at h;split at h
  ·rename_i O I h1;split at h
   ·rename_i ws Z h2;simp only [Ak,Prod.mk.injEq] at h;obtain ⟨rfl,rfl⟩:=h;simp only [ai3,As];rw [ahx p s H O I (ws++o) h1];exact aki M ss I ws _ o h2
   ·cases h
  ·cases h
end
structure StFit (P:Program) (st0:List BX) (bs0 bs:List BSh) (st st':List BX):Prop where
 len:st'.length=bs.length
 acc:∀ (k:Nat),bs[k]?=some .acc->st'[k]?=some (.acc 0)/\((∃ (g:Nat),st[k]?=some (.acc g))\/st.length<=k)
 box:∀ (k:Nat) (T:TypeId) (p:Pat),bs[k]?=some (.box T p)->∃ (s:SV) (vs rest:List SV) (shs shs':List Shape),st[k]?=some (.box T s)/\ahc P st0 bs0 p s shs=some (vs,shs')/\st'[k]?=some (.box T (p.build (vs++rest)).1)
 map:∀ (k:Nat) (K E:TypeId),bs[k]?=some (.map K E)->∃ (es:List (PV×PV)),st[k]?=some (.map K E es)/\st'[k]?=some (.map K E es)
 iter:∀ (k:Nat),bs[k]?=some .iter->∃ (s:Bo) (p:Nat),st[k]?=some (.iter s p)/\st'[k]?=some (.iter s p)
 bld:∀ (k:Nat) (T:TypeId),bs[k]?=some (.bld T)->∃ (s:Bo),st[k]?=some (.bld T s)/\st'[k]?=some (.bld T s)
 arr:∀ (k:Nat) (E:TypeId) (fl:Nat),bs[k]?=some (.arr E fl)->∃ (xs:List PV),st'[k]?=some (.arr E fl xs)/\((∃ g,st[k]?=some (.arr E g xs)/\(fl=0->g=0))\/(st.length<=k/\xs=[]))
 mit:∀ (k:Nat) (K E:TypeId),bs[k]?=some (.mit K E)->∃ (es:List (PV×PV)),st'[k]?=some (.mit K E none es)/\∃ c,st[k]?=some (.mit K E c es)
theorem StFit.cons {P:Program}{I:List BX}{H r:List BSh}{st st':List BX}{b:BSh}{x y:BX} (f:StFit P I H r st st') (ha:b=.acc->y=.acc 0/\∃ g,x=.acc g)
 (hb:∀ T p,b=.box T p->∃ (s:SV) (vs o:List SV) (Z z:List Shape),x=.box T s/\ahc P I H p s Z=some (vs,z)/\y=.box T (p.build (vs++o)).1)
 (hm:∀ K E,b=.map K E->∃ es,x=.map K E es/\y=.map K E es) (hi:b=.iter->∃ s p,x=.iter s p/\y=.iter s p) (hl:∀ T,b=.bld T->∃ s,x=.bld T s/\y=.bld T s) (hr:∀ E O,b=.arr E O->∃ xs,y=.arr E O xs/\∃ g,x=.arr E g xs/\(O=0->g=0)) (hq:∀ K E,b=.mit K E->∃ es,y=.mit K E none es/\∃ c,x=.mit K E c es):StFit P I H (b::r) (x::st) (y::st'):=by
 refine ⟨by simp [f.len],λk h=>?_,λk T p h=>?_,λk K E h=>?_,λk h=>?_,λk T h=>?_,λk E O h=>?_,λk K E h=>?_⟩
 ·cases k with
  | zero=>grind
  | succ k=>obtain ⟨J,M⟩:=f.acc k (by simpa using h);grind
 ·cases k with
  | zero=>grind
  | succ k=>obtain ⟨s,vs,o,Z,z,J,M,h3⟩:=f.box k T p (by simpa using h);grind
 ·cases k with
  | zero=>grind
  | succ k=>obtain ⟨es,J,M⟩:=f.map k K E (by simpa using h);grind
 ·cases k with
  | zero=>grind
  | succ k=>obtain ⟨s,p,J,M⟩:=f.iter k (by simpa using h);grind
 ·cases k with
  | zero=>grind
  | succ k=>obtain ⟨s,J,M⟩:=f.bld k T (by simpa using h);grind
 ·cases k with
  | zero=>grind
  | succ k=>obtain ⟨s,J,M⟩:=f.arr k E O (by simpa using h);grind
 ·cases k with
  | zero=>grind
  | succ k=>obtain ⟨es,J,c,M⟩:=f.mit k K E (by simpa using h);grind
theorem aok {P:Program}{ad:List BX}{aa:List BSh}:∀ (bs:List BSh) (st:List BX) (Z:List Shape) (us:List SV),afk P ad aa bs st Z=some us->StFit P ad aa bs st (toSt bs us):=by
 intro bs;induction bs with
 | nil=>intro st Z us h;simp [afk] at h;subst h;exact ⟨rfl,λk h=>by simp at h,λk T p h=>by simp at h,λk K E h=>by simp at h,λk h=>by simp at h,λk T h=>by simp at h,λk E O h=>by simp at h,λk K E h=>by simp at h⟩
 | cons b r ih=>
  intro st Z us h;unfold afk at h;split at h
  ·contradiction
  ·rename_i H;injection H with o I;subst o;subst I;have f:=ih [] _ us h;refine ⟨by simp [toSt,f.len],λk z=>?_,λk T p z=>?_,λk K E z=>?_,λk z=>?_,λk T z=>?_,λk E O z=>?_,λk K E z=>?_⟩
   ·cases k with
    | zero=>exact ⟨rfl,Or.inr (by simp)⟩
    | succ k=>obtain ⟨o,I⟩:=f.acc k (by simpa using z);grind [toSt]
   ·cases k with
    | zero=>simp at z
    | succ k=>obtain ⟨s,M,ab,Z,J,o,_⟩:=f.box k T p (by simpa using z);simp at o
   ·cases k with
    | zero=>simp at z
    | succ k=>obtain ⟨s,o,_⟩:=f.map k K E (by simpa using z);simp at o
   ·cases k with
    | zero=>simp at z
    | succ k=>obtain ⟨s,p,o,_⟩:=f.iter k (by simpa using z);simp at o
   ·cases k with
    | zero=>simp at z
    | succ k=>obtain ⟨s,o,_⟩:=f.bld k T (by simpa using z);simp at o
   ·cases k with
    | zero=>simp at z
    | succ k=>obtain ⟨s,o,I⟩:=f.arr k E O (by simpa using z);grind [toSt]
   ·cases k with
    | zero=>simp at z
    | succ k=>obtain ⟨s,_,_,o⟩:=f.mit k K E (by simpa using z);simp at o
  ·rename_i H;injection H with o I;subst o;subst I;exact (ih _ _ us h).cons (λ_=>⟨rfl,_,rfl⟩) (λT p e=>by cases e) (λK E e=>by cases e) (λe=>by cases e) (λT e=>by cases e) (λE O e=>by cases e) (λK E e=>by cases e)
  ·rename_i T p r' T' s st' H;injection H with o I;subst o;subst I;cases H:Nat.beq T T' with
   | false=>grind
   | true=>
    rw [H] at h;have:=Ae H;subst this;simp only [Af] at h;split at h
    ·rename_i M af o;split at h
     ·rename_i ws I;cases h;have e:toSt (.box T p::r) (M++ws)=.box T (p.build (M++ws)).1::toSt r ws:=by
       grind [toSt,ahx]
      rw [e];exact (ih _ _ ws I).cons (λe=>by cases e) (λT p e=>by grind) (λK E e=>by cases e) (λe=>by cases e) (λT e=>by cases e) (λE O e=>by cases e) (λK E e=>by cases e)
     ·cases h
    ·cases h
  ·rename_i K E r' K' E' es st' sh J H;injection H with o I;subst o;subst I;cases H:(Nat.beq K K'&&Nat.beq E E') with
   | false=>grind
   | true=>
    rw [H] at h;simp only [Aj] at H;have:=Ae H.1;subst this;have:=Ae H.2;subst this;simp only [Af] at h;split at h
    ·rename_i M I;cases h;exact (ih _ _ M I).cons (λe=>by cases e) (λT p e=>by cases e) (λK E e=>by simp_all) (λe=>by cases e) (λT e=>by cases e) (λE O e=>by cases e) (λK E e=>by cases e)
    ·cases h
  ·rename_i r' s p st' sh ag J H;injection H with o I;subst o;subst I;split at h
   ·rename_i M I;cases h;exact (ih _ _ M I).cons (λe=>by cases e) (λT p e=>by cases e) (λK E e=>by cases e) (λ_=>⟨s,p,rfl,by simp⟩) (λT e=>by cases e) (λE O e=>by cases e) (λK E e=>by cases e)
   ·cases h
  ·rename_i T r' T' s st' sh J H;injection H with o I;subst o;subst I;cases H:Nat.beq T T' with
   | false=>grind
   | true=>
    rw [H] at h;have:=Ae H;subst this;simp only [Af] at h;split at h
    ·rename_i M I;cases h;exact (ih _ _ M I).cons (λe=>by cases e) (λT p e=>by cases e) (λK E e=>by cases e) (λe=>by cases e) (λT e=>by simp_all) (λE O e=>by cases e) (λK E e=>by cases e)
    ·cases h
  ·rename_i E O r' sh J H;injection H with o I;subst o;subst I;split at h;case h_2=>cases h
   rename_i M I;cases h;have f:=ih [] _ M I;refine ⟨by simp [toSt,f.len],λk z=>?_,λk T p z=>?_,λk K E z=>?_,λk z=>?_,λk T z=>?_,λk E' ae z=>?_,λk K E z=>?_⟩
   ·cases k with
    | zero=>simp at z
    | succ k=>obtain ⟨o,I⟩:=f.acc k (by simpa using z);grind [toSt]
   ·cases k with
    | zero=>simp at z
    | succ k=>obtain ⟨s,M,ab,Z,J,o,_⟩:=f.box k T p (by simpa using z);simp at o
   ·cases k with
    | zero=>simp at z
    | succ k=>obtain ⟨s,o,_⟩:=f.map k K E (by simpa using z);simp at o
   ·cases k with
    | zero=>simp at z
    | succ k=>obtain ⟨s,p,o,_⟩:=f.iter k (by simpa using z);simp at o
   ·cases k with
    | zero=>simp at z
    | succ k=>obtain ⟨s,o,_⟩:=f.bld k T (by simpa using z);simp at o
   ·cases k with
    | zero=>simp at z;obtain ⟨rfl,rfl⟩:=z;exact ⟨[],by simp [toSt],Or.inr ⟨by simp,rfl⟩⟩
    | succ k=>obtain ⟨s,o,I⟩:=f.arr k E' ae (by simpa using z);grind [toSt]
   ·cases k with
    | zero=>simp at z
    | succ k=>obtain ⟨s,_,_,o⟩:=f.mit k K E (by simpa using z);simp at o
  ·rename_i E O r' E' g xs st' sh J H;injection H with o I;subst o;subst I;cases H:(Nat.beq E E'&&(bif Nat.beq O 0 then Nat.beq g 0 else true)) with
   | false=>grind
   | true=>
    rw [H] at h;simp only [Aj] at H;have:=Ae H.1;subst this;have hg:O=0->g=0:=by intro e;simp_all
    simp only [Af] at h;split at h
    ·rename_i M I;cases h;exact (ih _ _ M I).cons (λe=>by cases e) (λT p e=>by cases e) (λK E e=>by cases e) (λe=>by cases e) (λT e=>by cases e) (λE O e=>by simp_all) (λK E e=>by cases e)
    ·cases h
  ·rename_i K E r' K' E' c es st' sh J H;injection H with o I;subst o;subst I;cases H:(Nat.beq K K'&&Nat.beq E E') with
   | false=>grind
   | true=>
    rw [H] at h;simp only [Aj] at H;have:=Ae H.1;subst this;have:=Ae H.2;subst this;simp only [Af] at h;split at h
    ·rename_i M I;cases h;exact (ih _ _ M I).cons (λe=>by cases e) (λT p e=>by cases e) (λK E e=>by cases e) (λe=>by cases e) (λT e=>by cases e) (λE O e=>by cases e) (λK E e=>by simp_all)
    ·cases h
  ·cases h
end Go.Ab
