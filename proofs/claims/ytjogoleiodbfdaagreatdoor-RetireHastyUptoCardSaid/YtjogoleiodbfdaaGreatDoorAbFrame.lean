/- States in one form, with typed parts. -/
import Derived.Test.YtjogoleiodbfdaaGreatDoorAbCode
set_option linter.unusedVariables false
set_option linter.unusedSimpArgs false
set_option linter.unnecessarySimpa false
namespace Go.Ab
open Go
inductive Shape where
 | bool
 | int (k:IntKind)
 | str
 | slice (E:TypeId)
 | data (T:TypeId)
 | map (K E:TypeId)
 | acc (k:Nat) (E:TypeId)
 | pto (T:TypeId)
 | raw
 | eif
 | ifc (T:TypeId)
 | ifs (T E:TypeId)
 | sln (E:TypeId)
 | con (s:SV)
@[reducible] def Shape.ty:Shape->Type
 | .bool=>Bool
 | .int _=>Int
 | .str=>Bt
 | .slice _=>List PV
 | .data _=>PV
 | .map _ _=>List (PV×PV)
 | .acc _ _=>List PV
 | .pto _=>PV
 | .raw=>Value
 | .eif=>Bool
 | .ifc _=>PV
 | .ifs _ _=>List PV
 | .sln _=>List PV
 | .con _=>Unit
def unGd (s:SV):SV:=match s with | .gd _ _ _=>.undef | s=>s
@[reducible] def Shape.enc:(s:Shape)->s.ty->SV
 | .bool,b=>.bool b
 | .int k,n=>.int k n
 | .str,s=>.str s
 | .slice E,xs=>.slice E xs
 | .data T,v=>.data T v
 | .map K E,es=>.map K E es
 | .acc k E,xs=>.acc k 0 E xs
 | .pto T,v=>.pto T v
 | .raw,v=>.raw v
 | .eif,b=>.eif b
 | .ifc T,v=>.ifc T (.data T v)
 | .ifs T E,xs=>.ifc T (.slice E xs)
 | .sln E,xs=>.sln E xs
 | .con c,_=>unGd c
def beqN:List Nat->List Nat->Bool
 | [],[]=>true
 | x::r,y::q=>Nat.beq x y&&beqN r q
 | _,_=>false
theorem a7n:∀ {a b:List Nat},beqN a b=true->a=b:=by
 intro a;induction a with
 | nil=>grind [beqN]
 | cons x r o=>
  intro b h;cases b with
  | nil=>simp [beqN] at h
  | cons y q=>simp only [beqN,Aj] at h;grind [Nat.eq_of_beq_eq_true]
def aq5 (a b:SV):Bool:=
 match a,b with
 | .ref k p T,.ref h p' o=>Nat.beq k h&&beqN p p'&&Nat.beq T o
 | .mref k,.mref h=>Nat.beq k h
 | .mitr k,.mitr h=>Nat.beq k h
 | .iref k,.iref h=>Nat.beq k h
 | .bref k T,.bref h o=>Nat.beq k h&&Nat.beq T o
 | .nils,.nils=>true
 | .arr k g E,.arr h I H=>Nat.beq k h&&Nat.beq g I&&Nat.beq E H
 | _,_=>false
theorem aq6 {a b:SV} (h:aq5 a b=true):a=b:=by
 unfold aq5 at h;split at h
 ·simp only [Aj] at h;rw [Ae h.1.1,a7n h.1.2,Ae h.2]
 ·rw [Ae h]
 ·rw [Ae h]
 ·rw [Ae h]
 ·simp only [Aj] at h;rw [Ae h.1,Ae h.2]
 ·rfl
 ·simp only [Aj] at h;rw [Ae h.1.1,Ae h.1.2,Ae h.2]
 ·cases h
def aj9:List SV->List SV->Bool
 | [],[]=>true
 | x::r,y::q=>aq5 x y&&aj9 r q
 | _,_=>false
theorem aw4:∀ {a b:List SV},aj9 a b=true->a=b:=by
 intro a;induction a with
 | nil=>grind [aj9]
 | cons x r o=>
  intro b h;cases b with
  | nil=>simp [aj9] at h
  | cons y q=>simp only [aj9,Aj] at h;grind [aq6]
def avp (a b:SV):Bool:=
 match a,b with
 | .fn f n cs,.fn o H h=>Nat.beq f o&&Nat.beq n H&&aj9 cs h
 | a,b=>aq5 a b
theorem azh {a b:SV} (h:avp a b=true):a=b:=by
 unfold avp at h;split at h
 ·simp only [Aj] at h;grind [Nat.eq_of_beq_eq_true,aw4]
 ·exact aq6 h
@[reducible] def Shape.get:(s:Shape)->SV->Option s.ty
 | .bool,.bool b=>some b
 | .int k,.int H n=>bif decide (k=H) then some n else none
 | .str,.str s=>some s
 | .slice E,.slice h xs=>bif Nat.beq E h then some xs else none
 | .data T,.data o v=>bif Nat.beq T o then some v else none
 | .map K E,.map I h es=>bif Nat.beq K I&&Nat.beq E h then some es else none
 | .acc k E,.acc H 0 h xs=>bif Nat.beq k H&&Nat.beq E h then some xs else none
 | .pto T,.pto o v=>bif Nat.beq T o then some v else none
 | .raw,.raw v=>some v
 | .eif,.eif b=>some b
 | .ifc T,.ifc o (.data J v)=>bif Nat.beq T o&&Nat.beq T J then some v else none
 | .ifs T E,.ifc o (.slice h xs)=>bif Nat.beq T o&&Nat.beq E h then some xs else none
 | .con c,s=>bif avp s c then some () else none
 | _,_=>none
theorem aa3 {o:Type}{b:Bool}{x y:o} (h:(bif b then some x else none)=some y):b=true/\x=y:=by grind
theorem Shape.get_spec {J:Shape}{s:SV}{x:J.ty} (h:J.get s=some x):s=J.enc x:=by
 unfold Shape.get at h;split at h
 ·cases h;rfl
 ·obtain ⟨o,rfl⟩:=aa3 h;have:=of_decide_eq_true o;subst this;rfl
 ·cases h;rfl
 ·obtain ⟨o,rfl⟩:=aa3 h;have:=Ae o;subst this;rfl
 ·obtain ⟨o,rfl⟩:=aa3 h;have:=Ae o;subst this;rfl
 ·obtain ⟨o,rfl⟩:=aa3 h;simp only [Aj] at o;have H:=Ae o.1;have I:=Ae o.2;subst H;subst I;rfl
 ·obtain ⟨o,rfl⟩:=aa3 h;simp only [Aj] at o;have H:=Ae o.1;have I:=Ae o.2;subst H;subst I;rfl
 ·obtain ⟨o,rfl⟩:=aa3 h;have:=Ae o;subst this;rfl
 ·cases h;rfl
 ·cases h;rfl
 ·obtain ⟨o,rfl⟩:=aa3 h;simp only [Aj] at o;have H:=Ae o.1;have I:=Ae o.2;subst H;subst I;rfl
 ·obtain ⟨o,rfl⟩:=aa3 h;simp only [Aj] at o;have H:=Ae o.1;have I:=Ae o.2;subst H;subst I;rfl
 ·obtain ⟨o,M⟩:=aa3 h;have:=azh o;subst this;show _=unGd _;unfold unGd;split
  ·simp [avp,aq5] at o
  ·rfl
 ·cases h
@[reducible] def TyL:List Shape->Type
 | []=>Unit
 | [s]=>s.ty
 | s::t::r=>s.ty×TyL (t::r)
def encL:(l:List Shape)->TyL l->List SV
 | [],_=>[]
 | [s],x=>[s.enc x]
 | s::t::r,x=>s.enc x.1::encL (t::r) x.2
def getL:(l:List Shape)->List SV->Option (TyL l)
 | [],[]=>some ()
 | [s],[v]=>s.get v
 | s::t::r,v::vs=>match s.get v,getL (t::r) vs with | some x,some y=>some (x,y) | _,_=>none
 | _,_=>none
theorem arw:∀ (l:List Shape) (o:List SV) (x:TyL l),getL l o=some x->o=encL l x:=by
 intro l;induction l with
 | nil=>intro o x h;cases o with | nil=>rfl | cons=>simp [getL] at h
 | cons s r J=>
  intro o x h;cases r with
  | nil=>
   match o with
   | []=>simp [getL] at h
   | [v]=>simp only [getL] at h;simp only [encL];rw [Shape.get_spec h]
   | _::_::_=>simp [getL] at h
  | cons t r=>
   match o with
   | []=>simp [getL] at h
   | v::o=>
    simp only [getL] at h;split at h
    ·rename_i y z H I;simp only [Al] at h;subst h;show v::o=_::_;rw [J o z I,Shape.get_spec H]
    ·cases h
theorem a7y:∀ (l:List Shape) (x:TyL l),(encL l x).length=l.length:=by
 intro l;induction l with
 | nil=>intro x;rfl
 | cons s r h=>
  intro x;cases r with
  | nil=>rfl
  | cons t r=>grind [encL]
theorem avz (H:Shape) (x:H.ty) (u:Nat) (o:Bool) (y:SV):H.enc x≠.gd u o y:=by
 cases H<;>simp only [Shape.enc]<;>first | exact (by intro h;cases h) | skip
 unfold unGd;grind
theorem azt:∀ (l:List Shape) (x:TyL l) (u:Nat) (o:Bool) (y:SV),SV.gd u o y∉encL l x:=by
 intro l;induction l with
 | nil=>grind [encL]
 | cons s r H=>
  intro x u o y h;cases r with
  | nil=>grind [encL,List.mem_singleton,avz]
  | cons t r=>grind [encL,avz]
inductive Pat where
 | leaf
 | agg (T:TypeId) (ps:List Pat)
inductive BSh where
 | box (T:TypeId) (p:Pat)
 | acc
 | map (K E:TypeId)
 | iter
 | bld (T:TypeId)
 | arr (E:TypeId) (fl:Nat)
 | mit (K E:TypeId)
def ajf:List Nat->List SV->Env
 | t::ts,v::vs=>λu=>bif Nat.beq u t then v else ajf ts vs u
 | _,_=>λ_=>.undef
mutual
def Pat.build:Pat->List SV->SV×List SV
 | .leaf,v::h=>(v,h)
 | .leaf,[]=>(.undef,[])
 | .agg T o,h=>(.agg T (aii o h).1,(aii o h).2)
def aii:List Pat->List SV->List SV×List SV
 | [],vs=>([],vs)
 | p::ps,vs=>((p.build vs).1::(aii ps (p.build vs).2).1,(aii ps (p.build vs).2).2)
end
def toSt:List BSh->List SV->List BX
 | .acc::r,h=>.acc 0::toSt r h
 | .box T p::r,h=>.box T (p.build h).1::toSt r (p.build h).2
 | .map K E::r,v::h=>.map K E (match v with | .map _ _ es=>es | _=>[])::toSt r h
 | .iter::r,v::u::h=>.iter (match v with | .str s=>s | _=>[]) (match u with | .int _ n=>n.toNat | _=>0)::toSt r h
 | .bld T::r,v::h=>.bld T (match v with | .str s=>s | _=>[])::toSt r h
 | .arr E o::r,v::h=>.arr E o (match v with | .slice _ xs=>xs | _=>[])::toSt r h
 | .mit K E::r,v::h=>.mit K E none (match v with | .map _ _ es=>es | _=>[])::toSt r h
 | _,_=>[]
def a3d (bs:List BSh) (k:Nat):Bool:=match bs[k]? with | some .acc=>true | _=>false
def a9x (bs:List BSh) (k:Nat):Bool:=match bs[k]? with | some (.box _ _)=>true | _=>false
def bav (bs:List BSh) (k:Nat):Bool:=match bs[k]? with | some (.map _ _)=>true | _=>false
def a6u (bs:List BSh) (k:Nat):Bool:=match bs[k]? with | some .iter=>true | _=>false
def bay (bs:List BSh) (k:Nat):Bool:=match bs[k]? with | some (.mit _ _)=>true | _=>false
def a9w (bs:List BSh) (k:Nat):Bool:=match bs[k]? with | some (.bld _)=>true | _=>false
def akl (bs:List BSh) (s:SV):Bool:=
 match s with
 | .ref k _ _=>a9x bs k
 | .mref k=>bav bs k
 | .mitr k=>bay bs k
 | .iref k=>a6u bs k
 | .bref k _=>a9w bs k
 | .nils=>true
 | _=>false
def ap5 (bs:List BSh) (s:SV):Bool:=
 match s with
 | .fn _ _ cs=>cs.all (akl bs)
 | s=>akl bs s
def avn (bs:List BSh) (k h:Nat) (E:TypeId):Bool:=match bs[k]? with | some (.arr E' fl')=>Nat.beq E E'&&Nat.beq h fl' | _=>false
def ajn (P:Program) (st:List BX) (bs:List BSh) (I:Shape) (s:SV):Option SV:=
 match I with
 | .acc k E=>
  match s with
  | .acc H g o xs=>bif Nat.beq k H&&Nat.beq E o&&an0 st k g&&a3d bs k then some (.acc k 0 E xs) else none
  | .nils=>bif a3d bs k then some (.acc k 0 E []) else none
  | _=>none
 | .slice E=>match s with | .nils=>some (.slice E []) | s=>ajb P none s
 | .con c=>
  match c with
  | .arr k h E=>
   match s with
   | .arr H g o=>bif Nat.beq k H&&Nat.beq E o&&aew st k g&&avn bs k h E then some (.arr k h E) else none
   | .nils=>bif avn bs k h E&&Nat.ble st.length k then some (.arr k h E) else none
   | _=>none
  | _=>bif ap5 bs s then some s else none
 | .ifc _=>match s with | .ifc T x=>(match ajb P none x with | some y=>some (.ifc T y) | none=>none) | _=>none
 | .ifs _ E=>match s with | .ifc T .nils=>some (.ifc T (.slice E [])) | .ifc T x=>(match ajb P none x with | some y=>some (.ifc T y) | none=>none) | _=>none
 | _=>ajb P none s
def afu (P:Program) (st:List BX) (bs:List BSh) (e:Env):List Nat->List Shape->Option (List SV)
 | [],_=>some []
 | t::ts,sh::shs=>match ajn P st bs sh (e t),afu P st bs e ts shs with | some v,some vs=>some (v::vs) | _,_=>none
 | _::_,[]=>none
mutual
def agr (P:Program) (st:List BX) (bs:List BSh):Pat->SV->List Shape->Option (List SV×List Shape)
 | .leaf,s,sh::h=>match ajn P st bs sh s with | some v=>some ([v],h) | none=>none
 | .leaf,_,[]=>none
 | .agg T o,s,h=>match agp P T s with | some fs=>aeq P st bs o fs h | none=>none
def aeq (P:Program) (st:List BX) (bs:List BSh):List Pat->List SV->List Shape->Option (List SV×List Shape)
 | [],[],shs=>some ([],shs)
 | p::ps,s::ss,shs=>
  match agr P st bs p s shs with
  | some (o,h)=>match aeq P st bs ps ss h with | some (ws,shs2)=>some (o++ws,shs2) | none=>none
  | none=>none
 | _,_,_=>none
end
def ae5 (P:Program) (H:List BX) (o:List BSh):List BSh->List BX->List Shape->Option (List SV)
 | [],_,_=>some []
 | .acc::r,[],h=>ae5 P H o r [] h
 | .acc::r,.acc _::st,h=>ae5 P H o r st h
 | .box T p::r,.box Z s::st,h=>
  bif Nat.beq T Z then
   match agr P H o p s h with
   | some (I,M)=>match ae5 P H o r st M with | some ws=>some (I++ws) | none=>none
   | none=>none
  else none
 | .map K E::r,.map O J es::st,_::h=>bif Nat.beq K O&&Nat.beq E J then (match ae5 P H o r st h with | some I=>some (.map K E es::I) | _=>none) else none
 | .iter::r,.iter s p::st,_::_::h=>(match ae5 P H o r st h with | some I=>some (.str s::.int .i64 p::I) | _=>none)
 | .bld T::r,.bld Z s::st,_::h=>bif Nat.beq T Z then (match ae5 P H o r st h with | some I=>some (.str s::I) | _=>none) else none
 | .arr E _::r,[],_::h=>(match ae5 P H o r [] h with | some I=>some (.slice E []::I) | _=>none)
 | .arr E fl::r,.arr J g xs::st,_::h=>bif Nat.beq E J&&(bif Nat.beq fl 0 then Nat.beq g 0 else true) then (match ae5 P H o r st h with | some I=>some (.slice E xs::I) | _=>none) else none
 | .mit K E::r,.mit O J _ es::st,_::h=>bif Nat.beq K O&&Nat.beq E J then (match ae5 P H o r st h with | some I=>some (.map K E es::I) | _=>none) else none
 | _,_,_=>none
structure Frame where
 slots:List Nat
 bs:List BSh
 sh:List Shape
@[reducible] def Frame.ty (F:Frame):Type:=TyL F.sh
def Frame.env (F:Frame) (x:F.ty):Env:=ajf F.slots (encL F.sh x)
def Frame.st (F:Frame) (x:F.ty):List BX:=toSt F.bs ((encL F.sh x).drop F.slots.length)
def Frame.dec (F:Frame) (P:Program) (e:Env) (st:List BX):Option F.ty:=
 match afu P st F.bs e F.slots F.sh,ae5 P st F.bs F.bs st (F.sh.drop F.slots.length) with
 | some o,some h=>getL F.sh (o++h)
 | _,_=>none
theorem axd:∀ (I:List Nat) (H:List SV),(∀ u o y,SV.gd u o y∉H)->NoGd (ajf I H):=by
 intro I;induction I with
 | nil=>intro H _ t u o x h;simp [ajf] at h
 | cons t I ih=>
  intro H Z J u o x h;cases H with
  | nil=>simp [ajf] at h
  | cons v H=>
   simp only [ajf] at h;cases M:Nat.beq J t with
   | true=>grind
   | false=>rw [M] at h;exact ih H (λu o y O=>Z u o y (List.mem_cons_of_mem _ O)) J u o x h
theorem Frame.noGd (F:Frame) (x:F.ty):NoGd (F.env x):=axd _ _ (azt F.sh x)
theorem aob {P:Program}{st:List BX}{bs:List BSh}{e:Env}:∀ (H:List Nat) (o:List Shape) (I:List SV),afu P st bs e H o=some I->I.length=H.length/\∀ t,ajf H I t=.undef\/∃ J,ajn P st bs J (e t)=some (ajf H I t):=by
 intro H;induction H with
 | nil=>intro o I h;simp [afu] at h;subst h;exact ⟨rfl,λt=>Or.inl rfl⟩
 | cons t H M=>
  intro o I h;cases o with
  | nil=>simp [afu] at h
  | cons J o=>grind [afu,ajf,Nat.beq,Nat.eq_of_beq_eq_true]
mutual
theorem ahg {P:Program}{st:List BX}{bs:List BSh}:∀ (p:Pat) (s:SV) (I:List Shape) (J:List SV) (H:List Shape) (o:List SV),agr P st bs p s I=some (J,H)->(p.build (J++o)).2=o
 | .leaf,s,sh::I,J,H,o,h=>by
  simp only [agr] at h;split at h
  ·simp only [Al,Prod.mk.injEq] at h;obtain ⟨rfl,rfl⟩:=h;rfl
  ·cases h
 | .leaf,s,[],J,H,o,h=>by simp [agr] at h
 | .agg T O,s,I,J,H,o,h=>by
  simp only [agr] at h;split at h
  ·rename_i M _;exact ajo O M I J H o h
  ·cases h
theorem ajo {P:Program}{st:List BX}{bs:List BSh}:∀ (O:List Pat) (Z:List SV) (I:List Shape) (M:List SV) (H:List Shape) (o:List SV),aeq P st bs O Z I=some (M,H)->(aii O (M++o)).2=o
 | [],[],I,M,H,o,h=>by simp only [aeq,Al,Prod.mk.injEq] at h;obtain ⟨rfl,rfl⟩:=h;rfl
 | [],_::_,I,M,H,o,h=>by simp [aeq] at h
 | _::_,[],I,M,H,o,h=>by simp [aeq] at h
 | p::O,s::Z,I,M,H,o,h=>by
  simp only [aeq] at h;split at h
  ·rename_i aa J h1;split at h
   ·rename_i ws ab h2;simp only [Al,Prod.mk.injEq] at h;obtain ⟨rfl,rfl⟩:=h;simp only [aii,Ar];rw [ahg p s I aa J (ws++o) h1];exact ajo O Z J ws _ o h2
   ·cases h
  ·cases h
end
structure StFit (P:Program) (st0:List BX) (bs0 bs:List BSh) (st st':List BX):Prop where
 len:st'.length=bs.length
 acc:∀ (k:Nat),bs[k]?=some .acc->st'[k]?=some (.acc 0)/\((∃ (g:Nat),st[k]?=some (.acc g))\/st.length<=k)
 box:∀ (k:Nat) (T:TypeId) (p:Pat),bs[k]?=some (.box T p)->∃ (s:SV) (vs rest:List SV) (shs shs':List Shape),st[k]?=some (.box T s)/\agr P st0 bs0 p s shs=some (vs,shs')/\st'[k]?=some (.box T (p.build (vs++rest)).1)
 map:∀ (k:Nat) (K E:TypeId),bs[k]?=some (.map K E)->∃ (es:List (PV×PV)),st[k]?=some (.map K E es)/\st'[k]?=some (.map K E es)
 iter:∀ (k:Nat),bs[k]?=some .iter->∃ (s:Bt) (p:Nat),st[k]?=some (.iter s p)/\st'[k]?=some (.iter s p)
 bld:∀ (k:Nat) (T:TypeId),bs[k]?=some (.bld T)->∃ (s:Bt),st[k]?=some (.bld T s)/\st'[k]?=some (.bld T s)
 arr:∀ (k:Nat) (E:TypeId) (fl:Nat),bs[k]?=some (.arr E fl)->∃ (xs:List PV),st'[k]?=some (.arr E fl xs)/\((∃ g,st[k]?=some (.arr E g xs)/\(fl=0->g=0))\/(st.length<=k/\xs=[]))
 mit:∀ (k:Nat) (K E:TypeId),bs[k]?=some (.mit K E)->∃ (es:List (PV×PV)),st'[k]?=some (.mit K E none es)/\∃ c,st[k]?=some (.mit K E c es)
theorem StFit.cons {P:Program}{aa:List BX}{Z r:List BSh}{st st':List BX}{b:BSh}{x y:BX} (f:StFit P aa Z r st st') (ha:b=.acc->y=.acc 0/\∃ g,x=.acc g)
 (hb:∀ T p,b=.box T p->∃ (s:SV) (vs I:List SV) (M J:List Shape),x=.box T s/\agr P aa Z p s M=some (vs,J)/\y=.box T (p.build (vs++I)).1)
 (hm:∀ K E,b=.map K E->∃ es,x=.map K E es/\y=.map K E es) (hi:b=.iter->∃ s p,x=.iter s p/\y=.iter s p) (hl:∀ T,b=.bld T->∃ s,x=.bld T s/\y=.bld T s) (hr:∀ E fl,b=.arr E fl->∃ xs,y=.arr E fl xs/\∃ g,x=.arr E g xs/\(fl=0->g=0)) (hq:∀ K E,b=.mit K E->∃ es,y=.mit K E none es/\∃ c,x=.mit K E c es):StFit P aa Z (b::r) (x::st) (y::st'):=by
 refine ⟨by simp [f.len],λk H=>?_,λk T p H=>?_,λk K E H=>?_,λk H=>?_,λk T H=>?_,λk E fl H=>?_,λk K E H=>?_⟩
 ·cases k with
  | zero=>obtain ⟨o,g,h⟩:=ha (by simpa using H);exact ⟨by simp [o],Or.inl ⟨g,by simp [h]⟩⟩
  | succ k=>obtain ⟨o,h⟩:=f.acc k (by simpa using H);exact ⟨by simpa using o,by simpa using h⟩
 ·cases k with
  | zero=>obtain ⟨s,vs,I,M,J,o,h,O⟩:=hb T p (by simpa using H);exact ⟨s,vs,I,M,J,by simp [o],h,by simp [O]⟩
  | succ k=>obtain ⟨s,vs,I,M,J,o,h,O⟩:=f.box k T p (by simpa using H);exact ⟨s,vs,I,M,J,by simpa using o,h,by simpa using O⟩
 ·cases k with
  | zero=>obtain ⟨es,o,h⟩:=hm K E (by simpa using H);exact ⟨es,by simp [o],by simp [h]⟩
  | succ k=>obtain ⟨es,o,h⟩:=f.map k K E (by simpa using H);exact ⟨es,by simpa using o,by simpa using h⟩
 ·cases k with
  | zero=>obtain ⟨s,p,o,h⟩:=hi (by simpa using H);exact ⟨s,p,by simp [o],by simp [h]⟩
  | succ k=>obtain ⟨s,p,o,h⟩:=f.iter k (by simpa using H);exact ⟨s,p,by simpa using o,by simpa using h⟩
 ·cases k with
  | zero=>obtain ⟨s,o,h⟩:=hl T (by simpa using H);exact ⟨s,by simp [o],by simp [h]⟩
  | succ k=>obtain ⟨s,o,h⟩:=f.bld k T (by simpa using H);exact ⟨s,by simpa using o,by simpa using h⟩
 ·cases k with
  | zero=>obtain ⟨s,o,g,h,O⟩:=hr E fl (by simpa using H);exact ⟨s,by simp [o],Or.inl ⟨g,by simp [h],O⟩⟩
  | succ k=>
   obtain ⟨s,o,h⟩:=f.arr k E fl (by simpa using H);refine ⟨s,by simpa using o,?_⟩;rcases h with ⟨g,h,O⟩ | ⟨h,O⟩
   ·exact Or.inl ⟨g,by simpa using h,O⟩
   ·exact Or.inr ⟨by simpa using h,O⟩
 ·cases k with
  | zero=>obtain ⟨es,o,c,h⟩:=hq K E (by simpa using H);exact ⟨es,by simp [o],c,by simp [h]⟩
  | succ k=>obtain ⟨es,o,c,h⟩:=f.mit k K E (by simpa using H);exact ⟨es,by simpa using o,c,by simpa using h⟩
theorem am7 {P:Program}{af:List BX}{ad:List BSh}:∀ (bs:List BSh) (st:List BX) (aa:List Shape) (us:List SV),ae5 P af ad bs st aa=some us->StFit P af ad bs st (toSt bs us):=by
 intro bs;induction bs with
 | nil=>intro st aa us h;simp [ae5] at h;subst h;exact ⟨rfl,λk h=>by simp at h,λk T p h=>by simp at h,λk K E h=>by simp at h,λk h=>by simp at h,λk T h=>by simp at h,λk E Z h=>by simp at h,λk K E h=>by simp at h⟩
 | cons b r ih=>
  intro st aa us h;unfold ae5 at h;split at h
  ·contradiction
  ·rename_i I;injection I with o H;subst o;subst H;have f:=ih [] _ us h;refine ⟨by simp [toSt,f.len],λk J=>?_,λk T p J=>?_,λk K E J=>?_,λk J=>?_,λk T J=>?_,λk E Z J=>?_,λk K E J=>?_⟩
   ·cases k with
    | zero=>exact ⟨rfl,Or.inr (by simp)⟩
    | succ k=>obtain ⟨o,H⟩:=f.acc k (by simpa using J);exact ⟨by simpa [toSt] using o,Or.inr (by simp)⟩
   ·cases k with
    | zero=>simp at J
    | succ k=>obtain ⟨s,O,ae,aa,M,o,_⟩:=f.box k T p (by simpa using J);simp at o
   ·cases k with
    | zero=>simp at J
    | succ k=>obtain ⟨s,o,_⟩:=f.map k K E (by simpa using J);simp at o
   ·cases k with
    | zero=>simp at J
    | succ k=>obtain ⟨s,p,o,_⟩:=f.iter k (by simpa using J);simp at o
   ·cases k with
    | zero=>simp at J
    | succ k=>obtain ⟨s,o,_⟩:=f.bld k T (by simpa using J);simp at o
   ·cases k with
    | zero=>simp at J
    | succ k=>
     obtain ⟨s,o,H⟩:=f.arr k E Z (by simpa using J);rcases H with ⟨g,H,_⟩ | ⟨_,h3⟩
     ·simp at H
     ·exact ⟨s,by simpa [toSt] using o,Or.inr ⟨by simp,h3⟩⟩
   ·cases k with
    | zero=>simp at J
    | succ k=>obtain ⟨s,_,_,o⟩:=f.mit k K E (by simpa using J);simp at o
  ·rename_i I;injection I with o H;subst o;subst H;exact (ih _ _ us h).cons (λ_=>⟨rfl,_,rfl⟩) (λT p e=>by cases e) (λK E e=>by cases e) (λe=>by cases e) (λT e=>by cases e) (λE Z e=>by cases e) (λK E e=>by cases e)
  ·rename_i T p r' T' s st' I;injection I with o H;subst o;subst H;cases I:Nat.beq T T' with
   | false=>rw [I] at h;cases h
   | true=>
    rw [I] at h;have:=Ae I;subst this;simp only [Af] at h;split at h
    ·rename_i O ab o;split at h
     ·rename_i ws H;cases h;have e:toSt (.box T p::r) (O++ws)=.box T (p.build (O++ws)).1::toSt r ws:=by
       show _::toSt r (p.build (O++ws)).2=_;rw [ahg p s _ O ab ws o]
      rw [e];exact (ih _ _ ws H).cons (λe=>by cases e) (λT p e=>by cases e;exact ⟨s,O,ws,_,ab,rfl,o,rfl⟩) (λK E e=>by cases e) (λe=>by cases e) (λT e=>by cases e) (λE Z e=>by cases e) (λK E e=>by cases e)
     ·cases h
    ·cases h
  ·rename_i K E r' K' E' es st' sh M I;injection I with o H;subst o;subst H;cases I:(Nat.beq K K'&&Nat.beq E E') with
   | false=>rw [I] at h;cases h
   | true=>
    rw [I] at h;simp only [Aj] at I;have:=Ae I.1;subst this;have:=Ae I.2;subst this;simp only [Af] at h;split at h
    ·rename_i O H;cases h;exact (ih _ _ O H).cons (λe=>by cases e) (λT p e=>by cases e) (λK E e=>by cases e;exact ⟨es,rfl,rfl⟩) (λe=>by cases e) (λT e=>by cases e) (λE Z e=>by cases e) (λK E e=>by cases e)
    ·cases h
  ·rename_i r' s p st' sh ah M I;injection I with o H;subst o;subst H;split at h
   ·rename_i O H;cases h;exact (ih _ _ O H).cons (λe=>by cases e) (λT p e=>by cases e) (λK E e=>by cases e) (λ_=>⟨s,p,rfl,by simp⟩) (λT e=>by cases e) (λE Z e=>by cases e) (λK E e=>by cases e)
   ·cases h
  ·rename_i T r' T' s st' sh M I;injection I with o H;subst o;subst H;cases I:Nat.beq T T' with
   | false=>rw [I] at h;cases h
   | true=>
    rw [I] at h;have:=Ae I;subst this;simp only [Af] at h;split at h
    ·rename_i O H;cases h;exact (ih _ _ O H).cons (λe=>by cases e) (λT p e=>by cases e) (λK E e=>by cases e) (λe=>by cases e) (λT e=>by cases e;exact ⟨s,rfl,rfl⟩) (λE Z e=>by cases e) (λK E e=>by cases e)
    ·cases h
  ·rename_i E Z r' sh M I;injection I with o H;subst o;subst H;split at h;case h_2=>cases h
   rename_i O H;cases h;have f:=ih [] _ O H;refine ⟨by simp [toSt,f.len],λk J=>?_,λk T p J=>?_,λk K E J=>?_,λk J=>?_,λk T J=>?_,λk E' ag J=>?_,λk K E J=>?_⟩
   ·cases k with
    | zero=>simp at J
    | succ k=>obtain ⟨o,H⟩:=f.acc k (by simpa using J);exact ⟨by simpa [toSt] using o,Or.inr (by simp)⟩
   ·cases k with
    | zero=>simp at J
    | succ k=>obtain ⟨s,O,ae,aa,M,o,_⟩:=f.box k T p (by simpa using J);simp at o
   ·cases k with
    | zero=>simp at J
    | succ k=>obtain ⟨s,o,_⟩:=f.map k K E (by simpa using J);simp at o
   ·cases k with
    | zero=>simp at J
    | succ k=>obtain ⟨s,p,o,_⟩:=f.iter k (by simpa using J);simp at o
   ·cases k with
    | zero=>simp at J
    | succ k=>obtain ⟨s,o,_⟩:=f.bld k T (by simpa using J);simp at o
   ·cases k with
    | zero=>simp at J;obtain ⟨rfl,rfl⟩:=J;exact ⟨[],by simp [toSt],Or.inr ⟨by simp,rfl⟩⟩
    | succ k=>
     obtain ⟨s,o,H⟩:=f.arr k E' ag (by simpa using J);rcases H with ⟨g,H,_⟩ | ⟨_,h3⟩
     ·simp at H
     ·exact ⟨s,by simpa [toSt] using o,Or.inr ⟨by simp,h3⟩⟩
   ·cases k with
    | zero=>simp at J
    | succ k=>obtain ⟨s,_,_,o⟩:=f.mit k K E (by simpa using J);simp at o
  ·rename_i E Z r' E' g xs st' sh M I;injection I with o H;subst o;subst H;cases I:(Nat.beq E E'&&(bif Nat.beq Z 0 then Nat.beq g 0 else true)) with
   | false=>rw [I] at h;cases h
   | true=>
    rw [I] at h;simp only [Aj] at I;have:=Ae I.1;subst this;have hg:Z=0->g=0:=by intro e;have H:=I.2;rw [e] at H;exact Ae H
    simp only [Af] at h;split at h
    ·rename_i O H;cases h;exact (ih _ _ O H).cons (λe=>by cases e) (λT p e=>by cases e) (λK E e=>by cases e) (λe=>by cases e) (λT e=>by cases e) (λE Z e=>by cases e;exact ⟨xs,by simp,g,rfl,hg⟩) (λK E e=>by cases e)
    ·cases h
  ·rename_i K E r' K' E' c es st' sh M I;injection I with o H;subst o;subst H;cases I:(Nat.beq K K'&&Nat.beq E E') with
   | false=>rw [I] at h;cases h
   | true=>
    rw [I] at h;simp only [Aj] at I;have:=Ae I.1;subst this;have:=Ae I.2;subst this;simp only [Af] at h;split at h
    ·rename_i O H;cases h;exact (ih _ _ O H).cons (λe=>by cases e) (λT p e=>by cases e) (λK E e=>by cases e) (λe=>by cases e) (λT e=>by cases e) (λE Z e=>by cases e) (λK E e=>by cases e;exact ⟨es,rfl,c,rfl⟩)
    ·cases h
  ·cases h
end Go.Ab
