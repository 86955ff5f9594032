/- States in one form, with typed parts. -/
import Derived.Test.YtcpkdafleaddlaaGreatDoorAbCode
set_option linter.unusedVariables false
set_option linter.unusedSimpArgs false
set_option linter.unnecessarySimpa false
namespace Go.Ab
open Go
inductive Shape where
 | bool
 | int (k:IntKind)
 | str
 | slice (E:TypeId)
 | data (T:TypeId)
 | map (K E:TypeId)
 | acc (k:Nat) (E:TypeId)
 | pto (T:TypeId)
 | raw
 | eif
 | ifc (T:TypeId)
 | con (s:SV)
@[reducible] def Shape.ty:Shape->Type
 | .bool=>Bool
 | .int _=>Int
 | .str=>Bq
 | .slice _=>List PV
 | .data _=>PV
 | .map _ _=>List (PV×PV)
 | .acc _ _=>List PV
 | .pto _=>PV
 | .raw=>Value
 | .eif=>Bool
 | .ifc _=>PV
 | .con _=>Unit
def unGd (s:SV):SV:=match s with | .gd _ _ _=>.undef | s=>s
@[reducible] def Shape.enc:(s:Shape)->s.ty->SV
 | .bool,b=>.bool b
 | .int k,n=>.int k n
 | .str,s=>.str s
 | .slice E,xs=>.slice E xs
 | .data T,v=>.data T v
 | .map K E,es=>.map K E es
 | .acc k E,xs=>.acc k 0 E xs
 | .pto T,v=>.pto T v
 | .raw,v=>.raw v
 | .eif,b=>.eif b
 | .ifc T,v=>.ifc T (.data T v)
 | .con c,_=>unGd c
def beqN:List Nat->List Nat->Bool
 | [],[]=>true
 | x::r,y::q=>Nat.beq x y&&beqN r q
 | _,_=>false
theorem bb5:∀ {a b:List Nat},beqN a b=true->a=b:=by
 intro a;induction a with
 | nil=>grind [beqN]
 | cons x r d=>
  intro b h;cases b with
  | nil=>simp [beqN] at h
  | cons y q=>simp only [beqN,Ai] at h;grind [Nat.eq_of_beq_eq_true]
def atv (a b:SV):Bool:=
 match a,b with
 | .ref k p T,.ref d p' m=>Nat.beq k d&&beqN p p'&&Nat.beq T m
 | .mref k,.mref d=>Nat.beq k d
 | .iref k,.iref d=>Nat.beq k d
 | .bref k T,.bref d m=>Nat.beq k d&&Nat.beq T m
 | .nils,.nils=>true
 | .arr k g E,.arr d z o=>Nat.beq k d&&Nat.beq g z&&Nat.beq E o
 | _,_=>false
theorem atw {a b:SV} (h:atv a b=true):a=b:=by
 unfold atv at h;split at h
 ·simp only [Ai] at h;all_goals grind [Nat.eq_of_beq_eq_true,bb5]
 all_goals simp_all
def ak8:List SV->List SV->Bool
 | [],[]=>true
 | x::r,y::q=>atv x y&&ak8 r q
 | _,_=>false
theorem az6:∀ {a b:List SV},ak8 a b=true->a=b:=by
 intro a;induction a with
 | nil=>grind [ak8]
 | cons x r d=>
  intro b h;cases b with
  | nil=>simp [ak8] at h
  | cons y q=>simp only [ak8,Ai] at h;grind [atw]
def ayj (a b:SV):Bool:=
 match a,b with
 | .fn f n cs,.fn m o d=>Nat.beq f m&&Nat.beq n o&&ak8 cs d
 | a,b=>atv a b
theorem a3c {a b:SV} (h:ayj a b=true):a=b:=by
 unfold ayj at h;split at h
 ·simp only [Ai] at h;grind [Nat.eq_of_beq_eq_true,az6]
 ·exact atw h
@[reducible] def Shape.get:(s:Shape)->SV->Option s.ty
 | .bool,.bool b=>some b
 | .int k,.int o n=>bif decide (k=o) then some n else none
 | .str,.str s=>some s
 | .slice E,.slice d xs=>bif Nat.beq E d then some xs else none
 | .data T,.data m v=>bif Nat.beq T m then some v else none
 | .map K E,.map z d es=>bif Nat.beq K z&&Nat.beq E d then some es else none
 | .acc k E,.acc o 0 d xs=>bif Nat.beq k o&&Nat.beq E d then some xs else none
 | .pto T,.pto m v=>bif Nat.beq T m then some v else none
 | .raw,.raw v=>some v
 | .eif,.eif b=>some b
 | .ifc T,.ifc m (.data H v)=>bif Nat.beq T m&&Nat.beq T H then some v else none
 | .con c,s=>bif ayj s c then some () else none
 | _,_=>none
theorem abm {d:Type}{b:Bool}{x y:d} (h:(bif b then some x else none)=some y):b=true/\x=y:=by grind
theorem Shape.get_spec {m:Shape}{s:SV}{x:m.ty} (h:m.get s=some x):s=m.enc x:=by
 unfold Shape.get at h;split at h
 ·cases h;rfl
 ·grind
 ·cases h;rfl
 ·obtain ⟨d,rfl⟩:=abm h;grind [Nat.eq_of_beq_eq_true]
 ·obtain ⟨d,rfl⟩:=abm h;grind [Nat.eq_of_beq_eq_true]
 ·obtain ⟨d,rfl⟩:=abm h;simp_all
 ·obtain ⟨d,rfl⟩:=abm h;simp_all
 ·obtain ⟨d,rfl⟩:=abm h;grind [Nat.eq_of_beq_eq_true]
 ·cases h;rfl
 ·cases h;rfl
 ·obtain ⟨d,rfl⟩:=abm h;simp only [Ai] at d;grind [Nat.eq_of_beq_eq_true]
 ·obtain ⟨d,o⟩:=abm h;have:=a3c d;subst this;show _=unGd _;unfold unGd;grind [ayj,atv]
 ·cases h
@[reducible] def TyL:List Shape->Type
 | []=>Unit
 | [s]=>s.ty
 | s::t::r=>s.ty×TyL (t::r)
def encL:(l:List Shape)->TyL l->List SV
 | [],_=>[]
 | [s],x=>[s.enc x]
 | s::t::r,x=>s.enc x.1::encL (t::r) x.2
def getL:(l:List Shape)->List SV->Option (TyL l)
 | [],[]=>some ()
 | [s],[v]=>s.get v
 | s::t::r,v::vs=>match s.get v,getL (t::r) vs with | some x,some y=>some (x,y) | _,_=>none
 | _,_=>none
theorem auh:∀ (l:List Shape) (d:List SV) (x:TyL l),getL l d=some x->d=encL l x:=by
 intro l;induction l with
 | nil=>intro d x h;cases d with | nil=>rfl | cons=>simp [getL] at h
 | cons s r H=>
  intro d x h;cases r with
  | nil=>
   match d with
   | []=>simp [getL] at h
   | [v]=>simp only [getL] at h;simp only [encL];rw [Shape.get_spec h]
   | _::_::_=>simp [getL] at h
  | cons t r=>
   match d with
   | []=>simp [getL] at h
   | v::d=>
    simp only [getL] at h;split at h
    ·rename_i y z m o;simp only [Ak] at h;subst h;show v::d=_::_;rw [H d z o,Shape.get_spec m]
    ·cases h
theorem bce:∀ (l:List Shape) (x:TyL l),(encL l x).length=l.length:=by
 intro l;induction l with
 | nil=>intro x;rfl
 | cons s r d=>
  intro x;cases r with
  | nil=>rfl
  | cons t r=>grind [encL]
theorem ayq (m:Shape) (x:m.ty) (u:Nat) (d:Bool) (y:SV):m.enc x≠.gd u d y:=by
 cases m<;>simp only [Shape.enc]<;>first | exact (by intro h;cases h) | skip
 unfold unGd;grind
theorem a3t:∀ (l:List Shape) (x:TyL l) (u:Nat) (d:Bool) (y:SV),SV.gd u d y∉encL l x:=by
 intro l;induction l with
 | nil=>grind [encL]
 | cons s r m=>
  intro x u d y h;cases r with
  | nil=>grind [encL,List.mem_singleton,ayq]
  | cons t r=>grind [encL,ayq]
inductive Pat where
 | leaf
 | agg (T:TypeId) (ps:List Pat)
inductive BSh where
 | box (T:TypeId) (p:Pat)
 | acc
 | map (K E:TypeId)
 | iter
 | bld (T:TypeId)
 | arr (E:TypeId) (fl:Nat)
def aka:List Nat->List SV->Env
 | t::ts,v::vs=>λu=>bif Nat.beq u t then v else aka ts vs u
 | _,_=>λ_=>.undef
mutual
def Pat.build:Pat->List SV->SV×List SV
 | .leaf,v::d=>(v,d)
 | .leaf,[]=>(.undef,[])
 | .agg T m,d=>(.agg T (ajf m d).1,(ajf m d).2)
def ajf:List Pat->List SV->List SV×List SV
 | [],vs=>([],vs)
 | p::ps,vs=>((p.build vs).1::(ajf ps (p.build vs).2).1,(ajf ps (p.build vs).2).2)
end
def toSt:List BSh->List SV->List BX
 | .acc::r,d=>.acc 0::toSt r d
 | .box T p::r,d=>.box T (p.build d).1::toSt r (p.build d).2
 | .map K E::r,v::d=>.map K E (match v with | .map _ _ es=>es | _=>[])::toSt r d
 | .iter::r,v::u::d=>.iter (match v with | .str s=>s | _=>[]) (match u with | .int _ n=>n.toNat | _=>0)::toSt r d
 | .bld T::r,v::d=>.bld T (match v with | .str s=>s | _=>[])::toSt r d
 | .arr E m::r,v::d=>.arr E m (match v with | .slice _ xs=>xs | _=>[])::toSt r d
 | _,_=>[]
def a7z (bs:List BSh) (k:Nat):Bool:=match bs[k]? with | some .acc=>true | _=>false
def bdt (bs:List BSh) (k:Nat):Bool:=match bs[k]? with | some (.box _ _)=>true | _=>false
def beg (bs:List BSh) (k:Nat):Bool:=match bs[k]? with | some (.map _ _)=>true | _=>false
def bbk (bs:List BSh) (k:Nat):Bool:=match bs[k]? with | some .iter=>true | _=>false
def bds (bs:List BSh) (k:Nat):Bool:=match bs[k]? with | some (.bld _)=>true | _=>false
def alf (bs:List BSh) (s:SV):Bool:=
 match s with
 | .ref k _ _=>bdt bs k
 | .mref k=>beg bs k
 | .iref k=>bbk bs k
 | .bref k _=>bds bs k
 | .nils=>true
 | _=>false
def arz (bs:List BSh) (s:SV):Bool:=
 match s with
 | .fn _ _ cs=>cs.all (alf bs)
 | s=>alf bs s
def ayh (bs:List BSh) (k d:Nat) (E:TypeId):Bool:=match bs[k]? with | some (.arr E' fl')=>Nat.beq E E'&&Nat.beq d fl' | _=>false
def akn (P:Program) (st:List BX) (bs:List BSh) (z:Shape) (s:SV):Option SV:=
 match z with
 | .acc k E=>
  match s with
  | .acc o g m xs=>bif Nat.beq k o&&Nat.beq E m&&apf st k g&&a7z bs k then some (.acc k 0 E xs) else none
  | .nils=>bif a7z bs k then some (.acc k 0 E []) else none
  | _=>none
 | .slice E=>match s with | .nils=>some (.slice E []) | s=>ann P none s
 | .con c=>
  match c with
  | .arr k d E=>
   match s with
   | .arr o g m=>bif Nat.beq k o&&Nat.beq E m&&ags st k g&&ayh bs k d E then some (.arr k d E) else none
   | .nils=>bif ayh bs k d E&&Nat.ble st.length k then some (.arr k d E) else none
   | _=>none
  | _=>bif arz bs s then some s else none
 | .ifc _=>match s with | .ifc T x=>(match ann P none x with | some y=>some (.ifc T y) | none=>none) | _=>none
 | _=>ann P none s
def agd (P:Program) (st:List BX) (bs:List BSh) (e:Env):List Nat->List Shape->Option (List SV)
 | [],_=>some []
 | t::ts,sh::shs=>match akn P st bs sh (e t),agd P st bs e ts shs with | some v,some vs=>some (v::vs) | _,_=>none
 | _::_,[]=>none
mutual
def ahh (P:Program) (st:List BX) (bs:List BSh):Pat->SV->List Shape->Option (List SV×List Shape)
 | .leaf,s,sh::d=>match akn P st bs sh s with | some v=>some ([v],d) | none=>none
 | .leaf,_,[]=>none
 | .agg T m,s,d=>match ahg P T s with | some fs=>ae3 P st bs m fs d | none=>none
def ae3 (P:Program) (st:List BX) (bs:List BSh):List Pat->List SV->List Shape->Option (List SV×List Shape)
 | [],[],shs=>some ([],shs)
 | p::ps,s::ss,shs=>
  match ahh P st bs p s shs with
  | some (m,d)=>match ae3 P st bs ps ss d with | some (ws,shs2)=>some (m++ws,shs2) | none=>none
  | none=>none
 | _,_,_=>none
end
def age (P:Program) (o:List BX) (m:List BSh):List BSh->List BX->List Shape->Option (List SV)
 | [],_,_=>some []
 | .acc::r,[],d=>age P o m r [] d
 | .acc::r,.acc _::st,d=>age P o m r st d
 | .box T p::r,.box O s::st,d=>
  bif Nat.beq T O then
   match ahh P o m p s d with
   | some (z,H)=>match age P o m r st H with | some ws=>some (z++ws) | none=>none
   | none=>none
  else none
 | .map K E::r,.map U M es::st,_::d=>bif Nat.beq K U&&Nat.beq E M then (match age P o m r st d with | some z=>some (.map K E es::z) | _=>none) else none
 | .iter::r,.iter s p::st,_::_::d=>(match age P o m r st d with | some z=>some (.str s::.int .i64 p::z) | _=>none)
 | .bld T::r,.bld O s::st,_::d=>bif Nat.beq T O then (match age P o m r st d with | some z=>some (.str s::z) | _=>none) else none
 | .arr E _::r,[],_::d=>(match age P o m r [] d with | some z=>some (.slice E []::z) | _=>none)
 | .arr E V::r,.arr M g xs::st,_::d=>bif Nat.beq E M&&(bif Nat.beq V 0 then Nat.beq g 0 else true) then (match age P o m r st d with | some z=>some (.slice E xs::z) | _=>none) else none
 | _,_,_=>none
structure Frame where
 slots:List Nat
 bs:List BSh
 sh:List Shape
@[reducible] def Frame.ty (F:Frame):Type:=TyL F.sh
def Frame.env (F:Frame) (x:F.ty):Env:=aka F.slots (encL F.sh x)
def Frame.st (F:Frame) (x:F.ty):List BX:=toSt F.bs ((encL F.sh x).drop F.slots.length)
def Frame.dec (F:Frame) (P:Program) (e:Env) (st:List BX):Option F.ty:=
 match agd P st F.bs e F.slots F.sh,age P st F.bs F.bs st (F.sh.drop F.slots.length) with
 | some m,some d=>getL F.sh (m++d)
 | _,_=>none
theorem a0m:∀ (ts:List Nat) (m:List SV),(∀ u d y,SV.gd u d y∉m)->NoGd (aka ts m):=by
 intro ts;induction ts with
 | nil=>intro m _ t u d x h;simp [aka] at h
 | cons t ts O=>
  intro m M o u d x h;cases m with
  | nil=>simp [aka] at h
  | cons v m=>
   simp only [aka] at h;cases z:Nat.beq o t with
   | true=>grind
   | false=>rw [z] at h;exact O m (λu d y H=>M u d y (List.mem_cons_of_mem _ H)) o u d x h
theorem Frame.noGd (F:Frame) (x:F.ty):NoGd (F.env x):=a0m _ _ (a3t F.sh x)
theorem apq {P:Program}{st:List BX}{bs:List BSh}{e:Env}:∀ (ts:List Nat) (d:List Shape) (m:List SV),agd P st bs e ts d=some m->m.length=ts.length/\∀ t,aka ts m t=.undef\/∃ o,akn P st bs o (e t)=some (aka ts m t):=by
 intro ts;induction ts with
 | nil=>intro d m h;simp [agd] at h;subst h;exact ⟨rfl,λt=>Or.inl rfl⟩
 | cons t ts z=>
  intro d m h;cases d with
  | nil=>simp [agd] at h
  | cons o d=>grind [agd,aka,Nat.beq,Nat.eq_of_beq_eq_true]
mutual
theorem ah6 {P:Program}{st:List BX}{bs:List BSh}:∀ (p:Pat) (s:SV) (o:List Shape) (z:List SV) (m:List Shape) (d:List SV),ahh P st bs p s o=some (z,m)->(p.build (z++d)).2=d
 | .leaf,s,sh::o,z,m,d,h=>by
  simp only [ahh] at h;split at h
  ·simp only [Ak,Prod.mk.injEq] at h;obtain ⟨rfl,rfl⟩:=h;rfl
  ·cases h
 | .leaf,s,[],z,m,d,h=>by simp [ahh] at h
 | .agg T H,s,o,z,m,d,h=>by
  simp only [ahh] at h;split at h
  ·rename_i fs _;exact ako H fs o z m d h
  ·cases h
theorem ako {P:Program}{st:List BX}{bs:List BSh}:∀ (M:List Pat) (ss:List SV) (o:List Shape) (H:List SV) (m:List Shape) (d:List SV),ae3 P st bs M ss o=some (H,m)->(ajf M (H++d)).2=d
 | [],[],o,H,m,d,h=>by simp only [ae3,Ak,Prod.mk.injEq] at h;obtain ⟨rfl,rfl⟩:=h;rfl
 | [],_::_,o,H,m,d,h=>by simp [ae3] at h
 | _::_,[],o,H,m,d,h=>by simp [ae3] at h
 | p::M,s::ss,o,H,m,d,h=>by
  simp only [ae3] at h;split at h
  ·rename_i O z W;split at h
   ·rename_i V U X;simp only [Ak,Prod.mk.injEq] at h;obtain ⟨rfl,rfl⟩:=h;simp only [ajf,Ax];rw [ah6 p s o O z (V++d) W];exact ako M ss z V _ d X
   ·cases h
  ·cases h
end
structure StFit (P:Program) (st0:List BX) (bs0 bs:List BSh) (st st':List BX):Prop where
 len:st'.length=bs.length
 acc:∀ (k:Nat),bs[k]?=some .acc->st'[k]?=some (.acc 0)/\((∃ (g:Nat),st[k]?=some (.acc g))\/st.length<=k)
 box:∀ (k:Nat) (T:TypeId) (p:Pat),bs[k]?=some (.box T p)->∃ (s:SV) (vs rest:List SV) (shs shs':List Shape),st[k]?=some (.box T s)/\ahh P st0 bs0 p s shs=some (vs,shs')/\st'[k]?=some (.box T (p.build (vs++rest)).1)
 map:∀ (k:Nat) (K E:TypeId),bs[k]?=some (.map K E)->∃ (es:List (PV×PV)),st[k]?=some (.map K E es)/\st'[k]?=some (.map K E es)
 iter:∀ (k:Nat),bs[k]?=some .iter->∃ (s:Bq) (p:Nat),st[k]?=some (.iter s p)/\st'[k]?=some (.iter s p)
 bld:∀ (k:Nat) (T:TypeId),bs[k]?=some (.bld T)->∃ (s:Bq),st[k]?=some (.bld T s)/\st'[k]?=some (.bld T s)
 arr:∀ (k:Nat) (E:TypeId) (fl:Nat),bs[k]?=some (.arr E fl)->∃ (xs:List PV),st'[k]?=some (.arr E fl xs)/\((∃ g,st[k]?=some (.arr E g xs)/\(fl=0->g=0))\/(st.length<=k/\xs=[]))
theorem StFit.cons {P:Program}{H:List BX}{z r:List BSh}{st st':List BX}{b:BSh}{x y:BX} (f:StFit P H z r st st') (Y:b=.acc->y=.acc 0/\∃ g,x=.acc g)
 (Z:∀ T p,b=.box T p->∃ (s:SV) (W m:List SV) (V o:List Shape),x=.box T s/\ahh P H z p s V=some (W,o)/\y=.box T (p.build (W++m)).1)
 (hm:∀ K E,b=.map K E->∃ es,x=.map K E es/\y=.map K E es) (hi:b=.iter->∃ s p,x=.iter s p/\y=.iter s p) (hl:∀ T,b=.bld T->∃ s,x=.bld T s/\y=.bld T s) (hr:∀ E M,b=.arr E M->∃ xs,y=.arr E M xs/\∃ g,x=.arr E g xs/\(M=0->g=0)):StFit P H z (b::r) (x::st) (y::st'):=by
 refine ⟨by simp [f.len],λk d=>?_,λk T p d=>?_,λk K E d=>?_,λk d=>?_,λk T d=>?_,λk E M d=>?_⟩
 ·cases k with
  | zero=>grind
  | succ k=>obtain ⟨O,U⟩:=f.acc k (by simpa using d);grind
 ·cases k with
  | zero=>grind
  | succ k=>obtain ⟨s,W,m,V,o,O,U,X⟩:=f.box k T p (by simpa using d);grind
 ·cases k with
  | zero=>grind
  | succ k=>obtain ⟨es,O,U⟩:=f.map k K E (by simpa using d);grind
 ·cases k with
  | zero=>grind
  | succ k=>obtain ⟨s,p,O,U⟩:=f.iter k (by simpa using d);grind
 ·cases k with
  | zero=>grind
  | succ k=>obtain ⟨s,O,U⟩:=f.bld k T (by simpa using d);grind
 ·cases k with
  | zero=>grind
  | succ k=>obtain ⟨s,O,U⟩:=f.arr k E M (by simpa using d);grind
theorem aon {P:Program}{ab:List BX}{Y:List BSh}:∀ (bs:List BSh) (st:List BX) (U:List Shape) (W:List SV),age P ab Y bs st U=some W->StFit P ab Y bs st (toSt bs W):=by
 intro bs;induction bs with
 | nil=>intro st U W h;simp [age] at h;subst h;exact ⟨rfl,λk h=>by simp at h,λk T p h=>by simp at h,λk K E h=>by simp at h,λk h=>by simp at h,λk T h=>by simp at h,λk E O h=>by simp at h⟩
 | cons b r V=>
  intro st U W h;unfold age at h;split at h
  ·contradiction
  ·rename_i z;injection z with d o;subst d;subst o;have f:=V [] _ W h;refine ⟨by simp [toSt,f.len],λk m=>?_,λk T p m=>?_,λk K E m=>?_,λk m=>?_,λk T m=>?_,λk E O m=>?_⟩
   ·cases k with
    | zero=>exact ⟨rfl,Or.inr (by simp)⟩
    | succ k=>obtain ⟨d,o⟩:=f.acc k (by simpa using m);grind [toSt]
   ·cases k with
    | zero=>simp at m
    | succ k=>obtain ⟨s,M,aa,U,H,d,_⟩:=f.box k T p (by simpa using m);simp at d
   ·cases k with
    | zero=>simp at m
    | succ k=>obtain ⟨s,d,_⟩:=f.map k K E (by simpa using m);simp at d
   ·cases k with
    | zero=>simp at m
    | succ k=>obtain ⟨s,p,d,_⟩:=f.iter k (by simpa using m);simp at d
   ·cases k with
    | zero=>simp at m
    | succ k=>obtain ⟨s,d,_⟩:=f.bld k T (by simpa using m);simp at d
   ·cases k with
    | zero=>simp at m
    | succ k=>obtain ⟨s,d,o⟩:=f.arr k E O (by simpa using m);grind [toSt]
  ·rename_i z;injection z with d o;subst d;subst o;exact (V _ _ W h).cons (λ_=>⟨rfl,_,rfl⟩) (λT p e=>by cases e) (λK E e=>by cases e) (λe=>by cases e) (λT e=>by cases e) (λE O e=>by cases e)
  ·rename_i T p Z T' s st' z;injection z with d o;subst d;subst o;cases z:Nat.beq T T' with
   | false=>grind
   | true=>
    rw [z] at h;have:=Af z;subst this;simp only [Ad] at h;split at h
    ·rename_i M ae d;split at h
     ·rename_i ws o;cases h;have e:toSt (.box T p::r) (M++ws)=.box T (p.build (M++ws)).1::toSt r ws:=by
       grind [toSt,ah6]
      rw [e];exact (V _ _ ws o).cons (λe=>by cases e) (λT p e=>by grind) (λK E e=>by cases e) (λe=>by cases e) (λT e=>by cases e) (λE O e=>by cases e)
     ·cases h
    ·cases h
  ·rename_i K E Z K' X es st' sh H z;injection z with d o;subst d;subst o;cases z:(Nat.beq K K'&&Nat.beq E X) with
   | false=>grind
   | true=>
    rw [z] at h;simp only [Ai] at z;have:=Af z.1;subst this;have:=Af z.2;subst this;simp only [Ad] at h;split at h
    ·rename_i M o;cases h;exact (V _ _ M o).cons (λe=>by cases e) (λT p e=>by cases e) (λK E e=>by simp_all) (λe=>by cases e) (λT e=>by cases e) (λE O e=>by cases e)
    ·cases h
  ·rename_i Z s p st' sh af H z;injection z with d o;subst d;subst o;split at h
   ·rename_i M o;cases h;exact (V _ _ M o).cons (λe=>by cases e) (λT p e=>by cases e) (λK E e=>by cases e) (λ_=>⟨s,p,rfl,by simp⟩) (λT e=>by cases e) (λE O e=>by cases e)
   ·cases h
  ·rename_i T Z T' s st' sh H z;injection z with d o;subst d;subst o;cases z:Nat.beq T T' with
   | false=>grind
   | true=>
    rw [z] at h;have:=Af z;subst this;simp only [Ad] at h;split at h
    ·rename_i M o;cases h;exact (V _ _ M o).cons (λe=>by cases e) (λT p e=>by cases e) (λK E e=>by cases e) (λe=>by cases e) (λT e=>by simp_all) (λE O e=>by cases e)
    ·cases h
  ·rename_i E O Z sh H z;injection z with d o;subst d;subst o;split at h;case h_2=>cases h
   rename_i M o;cases h;have f:=V [] _ M o;refine ⟨by simp [toSt,f.len],λk m=>?_,λk T p m=>?_,λk K E m=>?_,λk m=>?_,λk T m=>?_,λk X ad m=>?_⟩
   ·cases k with
    | zero=>simp at m
    | succ k=>obtain ⟨d,o⟩:=f.acc k (by simpa using m);grind [toSt]
   ·cases k with
    | zero=>simp at m
    | succ k=>obtain ⟨s,M,aa,U,H,d,_⟩:=f.box k T p (by simpa using m);simp at d
   ·cases k with
    | zero=>simp at m
    | succ k=>obtain ⟨s,d,_⟩:=f.map k K E (by simpa using m);simp at d
   ·cases k with
    | zero=>simp at m
    | succ k=>obtain ⟨s,p,d,_⟩:=f.iter k (by simpa using m);simp at d
   ·cases k with
    | zero=>simp at m
    | succ k=>obtain ⟨s,d,_⟩:=f.bld k T (by simpa using m);simp at d
   ·cases k with
    | zero=>simp at m;obtain ⟨rfl,rfl⟩:=m;exact ⟨[],by simp [toSt],Or.inr ⟨by simp,rfl⟩⟩
    | succ k=>obtain ⟨s,d,o⟩:=f.arr k X ad (by simpa using m);grind [toSt]
  ·rename_i E O Z X g xs st' sh H z;injection z with d o;subst d;subst o;cases z:(Nat.beq E X&&(bif Nat.beq O 0 then Nat.beq g 0 else true)) with
   | false=>grind
   | true=>
    rw [z] at h;simp only [Ai] at z;have:=Af z.1;subst this;have hg:O=0->g=0:=by intro e;simp_all
    simp only [Ad] at h;split at h
    ·rename_i M o;cases h;exact (V _ _ M o).cons (λe=>by cases e) (λT p e=>by cases e) (λK E e=>by cases e) (λe=>by cases e) (λT e=>by cases e) (λE O e=>by simp_all)
    ·cases h
  ·cases h
end Go.Ab
