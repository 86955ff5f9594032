/- States in one form, with typed parts. -/
import Derived.Test.YtodichgnoiaanaaGreatAbCode
set_option linter.unusedVariables false
set_option linter.unusedSimpArgs false
set_option linter.unnecessarySimpa false
namespace Go.Ab
open Go
inductive Shape where
 | bool
 | int (k:IntKind)
 | str
 | slice (E:TypeId)
 | data (T:TypeId)
 | map (K E:TypeId)
 | acc (k:Nat) (E:TypeId)
 | pto (T:TypeId)
 | raw
 | eif
 | ifc (T:TypeId)
 | ifs (T E:TypeId)
 | sln (E:TypeId)
 | con (s:SV)
@[reducible] def Shape.ty:Shape->Type
 | .bool=>Bool
 | .int _=>Int
 | .str=>List UInt8
 | .slice _=>List PV
 | .data _=>PV
 | .map _ _=>List (PV×PV)
 | .acc _ _=>List PV
 | .pto _=>PV
 | .raw=>Value
 | .eif=>Bool
 | .ifc _=>PV
 | .ifs _ _=>List PV
 | .sln _=>List PV
 | .con _=>Unit
def unGd (s:SV):SV:=match s with | .gd _ _ _=>.undef | s=>s
@[reducible] def Shape.enc:(s:Shape)->s.ty->SV
 | .bool,b=>.bool b
 | .int k,n=>.int k n
 | .str,s=>.str s
 | .slice E,xs=>.slice E xs
 | .data T,v=>.data T v
 | .map K E,es=>.map K E es
 | .acc k E,xs=>.acc k 0 E xs
 | .pto T,v=>.pto T v
 | .raw,v=>.raw v
 | .eif,b=>.eif b
 | .ifc T,v=>.ifc T (.data T v)
 | .ifs T E,xs=>.ifc T (.slice E xs)
 | .sln E,xs=>.sln E xs
 | .con c,_=>unGd c
def beqN:List Nat->List Nat->Bool
 | [],[]=>true
 | x::r,y::q=>Nat.beq x y&&beqN r q
 | _,_=>false
theorem a4v:∀ {a b:List Nat},beqN a b=true->a=b:=by
 intro a
 induction a with
 | nil=>intro b h;cases b with | nil=>rfl | cons=>simp [beqN] at h
 | cons x r ih=>
  intro b h
  cases b with
  | nil=>simp [beqN] at h
  | cons y q=>
   simp only [beqN,Bool.and_eq_true] at h
   rw [Nat.eq_of_beq_eq_true h.1,ih h.2]
def an5 (a b:SV):Bool:=
 match a,b with
 | .ref k p T,.ref k' p' T'=>Nat.beq k k'&&beqN p p'&&Nat.beq T T'
 | .mref k,.mref k'=>Nat.beq k k'
 | .mitr k,.mitr k'=>Nat.beq k k'
 | .iref k,.iref k'=>Nat.beq k k'
 | .bref k T,.bref k' T'=>Nat.beq k k'&&Nat.beq T T'
 | .nils,.nils=>true
 | .arr k g E,.arr k' g' E'=>Nat.beq k k'&&Nat.beq g g'&&Nat.beq E E'
 | _,_=>false
theorem alk {a b:SV} (h:an5 a b=true):a=b:=by
 unfold an5 at h
 split at h
 ·simp only [Bool.and_eq_true] at h
  rw [Nat.eq_of_beq_eq_true h.1.1,a4v h.1.2,Nat.eq_of_beq_eq_true h.2]
 ·rw [Nat.eq_of_beq_eq_true h]
 ·rw [Nat.eq_of_beq_eq_true h]
 ·rw [Nat.eq_of_beq_eq_true h]
 ·simp only [Bool.and_eq_true] at h
  rw [Nat.eq_of_beq_eq_true h.1,Nat.eq_of_beq_eq_true h.2]
 ·rfl
 ·simp only [Bool.and_eq_true] at h
  rw [Nat.eq_of_beq_eq_true h.1.1,Nat.eq_of_beq_eq_true h.1.2,Nat.eq_of_beq_eq_true h.2]
 ·cases h
def aj0:List SV->List SV->Bool
 | [],[]=>true
 | x::r,y::q=>an5 x y&&aj0 r q
 | _,_=>false
theorem awj:∀ {a b:List SV},aj0 a b=true->a=b:=by
 intro a
 induction a with
 | nil=>intro b h;cases b with | nil=>rfl | cons=>simp [aj0] at h
 | cons x r ih=>
  intro b h
  cases b with
  | nil=>simp [aj0] at h
  | cons y q=>
   simp only [aj0,Bool.and_eq_true] at h
   rw [alk h.1,ih h.2]
def au5 (a b:SV):Bool:=
 match a,b with
 | .fn f n cs,.fn f' n' cs'=>Nat.beq f f'&&Nat.beq n n'&&aj0 cs cs'
 | .ifc T a,.ifc T' b=>Nat.beq T T'&&an5 a b
 | a,b=>an5 a b
theorem aym {a b:SV} (h:au5 a b=true):a=b:=by
 unfold au5 at h
 split at h
 ·simp only [Bool.and_eq_true] at h
  rw [Nat.eq_of_beq_eq_true h.1.1,Nat.eq_of_beq_eq_true h.1.2,awj h.2]
 ·simp only [Bool.and_eq_true] at h
  rw [Nat.eq_of_beq_eq_true h.1,alk h.2]
 ·exact alk h
@[reducible] def Shape.get:(s:Shape)->SV->Option s.ty
 | .bool,.bool b=>some b
 | .int k,.int k' n=>bif decide (k=k') then some n else none
 | .str,.str s=>some s
 | .slice E,.slice E' xs=>bif Nat.beq E E' then some xs else none
 | .data T,.data T' v=>bif Nat.beq T T' then some v else none
 | .map K E,.map K' E' es=>bif Nat.beq K K'&&Nat.beq E E' then some es else none
 | .acc k E,.acc k' 0 E' xs=>bif Nat.beq k k'&&Nat.beq E E' then some xs else none
 | .pto T,.pto T' v=>bif Nat.beq T T' then some v else none
 | .raw,.raw v=>some v
 | .eif,.eif b=>some b
 | .ifc T,.ifc T' (.data T2 v)=>bif Nat.beq T T'&&Nat.beq T T2 then some v else none
 | .ifs T E,.ifc T' (.slice E' xs)=>bif Nat.beq T T'&&Nat.beq E E' then some xs else none
 | .con c,s=>bif au5 s c then some () else none
 | _,_=>none
theorem abk {α:Type}{b:Bool}{x y:α} (h:(bif b then some x else none)=some y):b=true/\x=y:=by
 cases b with
 | true=>simp at h;exact ⟨rfl,h⟩
 | false=>simp at h
theorem Shape.get_spec {sh:Shape}{s:SV}{x:sh.ty} (h:sh.get s=some x):s=sh.enc x:=by
 unfold Shape.get at h
 split at h
 ·cases h;rfl
 ·obtain ⟨hb,rfl⟩:=abk h
  have:=of_decide_eq_true hb;subst this;rfl
 ·cases h;rfl
 ·obtain ⟨hb,rfl⟩:=abk h
  have:=Nat.eq_of_beq_eq_true hb;subst this;rfl
 ·obtain ⟨hb,rfl⟩:=abk h
  have:=Nat.eq_of_beq_eq_true hb;subst this;rfl
 ·obtain ⟨hb,rfl⟩:=abk h
  simp only [Bool.and_eq_true] at hb
  have h1:=Nat.eq_of_beq_eq_true hb.1;have h2:=Nat.eq_of_beq_eq_true hb.2;subst h1;subst h2;rfl
 ·obtain ⟨hb,rfl⟩:=abk h
  simp only [Bool.and_eq_true] at hb
  have h1:=Nat.eq_of_beq_eq_true hb.1;have h2:=Nat.eq_of_beq_eq_true hb.2;subst h1;subst h2;rfl
 ·obtain ⟨hb,rfl⟩:=abk h
  have:=Nat.eq_of_beq_eq_true hb;subst this;rfl
 ·cases h;rfl
 ·cases h;rfl
 ·obtain ⟨hb,rfl⟩:=abk h
  simp only [Bool.and_eq_true] at hb
  have h1:=Nat.eq_of_beq_eq_true hb.1;have h2:=Nat.eq_of_beq_eq_true hb.2;subst h1;subst h2;rfl
 ·obtain ⟨hb,rfl⟩:=abk h
  simp only [Bool.and_eq_true] at hb
  have h1:=Nat.eq_of_beq_eq_true hb.1;have h2:=Nat.eq_of_beq_eq_true hb.2;subst h1;subst h2;rfl
 ·obtain ⟨hb,hx⟩:=abk h
  have:=aym hb;subst this
  show _=unGd _
  unfold unGd
  split
  ·simp [au5,an5] at hb
  ·rfl
 ·cases h
@[reducible] def TyL:List Shape->Type
 | []=>Unit
 | [s]=>s.ty
 | s::t::r=>s.ty×TyL (t::r)
def encL:(l:List Shape)->TyL l->List SV
 | [],_=>[]
 | [s],x=>[s.enc x]
 | s::t::r,x=>s.enc x.1::encL (t::r) x.2
def getL:(l:List Shape)->List SV->Option (TyL l)
 | [],[]=>some ()
 | [s],[v]=>s.get v
 | s::t::r,v::vs=>match s.get v,getL (t::r) vs with | some x,some y=>some (x,y) | _,_=>none
 | _,_=>none
theorem ara:∀ (l:List Shape) (vs:List SV) (x:TyL l),getL l vs=some x->vs=encL l x:=by
 intro l
 induction l with
 | nil=>intro vs x h;cases vs with | nil=>rfl | cons=>simp [getL] at h
 | cons s r ih=>
  intro vs x h
  cases r with
  | nil=>
   match vs with
   | []=>simp [getL] at h
   | [v]=>
    simp only [getL] at h
    simp only [encL]
    rw [Shape.get_spec h]
   | _::_::_=>simp [getL] at h
  | cons t r=>
   match vs with
   | []=>simp [getL] at h
   | v::vs=>
    simp only [getL] at h
    split at h
    ·rename_i y z hy hz
     simp only [Option.some.injEq] at h;subst h
     show v::vs=_::_
     rw [ih vs z hz,Shape.get_spec hy]
    ·cases h
theorem a5b:∀ (l:List Shape) (x:TyL l),(encL l x).length=l.length:=by
 intro l
 induction l with
 | nil=>intro x;rfl
 | cons s r ih=>
  intro x
  cases r with
  | nil=>rfl
  | cons t r=>show (encL (t::r) x.2).length+1=_;rw [ih];rfl
theorem avf (sh:Shape) (x:sh.ty) (u:Nat) (want:Bool) (y:SV):sh.enc x≠.gd u want y:=by
 cases sh<;>simp only [Shape.enc]<;>first | exact (by intro h;cases h) | skip
 unfold unGd
 split
 ·intro h;cases h
 ·rename_i hne;exact fun h=>hne _ _ _ h
theorem ayy:∀ (l:List Shape) (x:TyL l) (u:Nat) (want:Bool) (y:SV),SV.gd u want y∉encL l x:=by
 intro l
 induction l with
 | nil=>intro x u want y h;simp [encL] at h
 | cons s r ih=>
  intro x u want y h
  cases r with
  | nil=>simp only [encL,List.mem_singleton] at h;exact avf s x u want y h.symm
  | cons t r=>
   simp only [encL,List.mem_cons] at h
   rcases h with h | h
   ·exact avf s x.1 u want y h.symm
   ·exact ih x.2 u want y h
inductive Pat where
 | leaf
 | agg (T:TypeId) (ps:List Pat)
inductive BSh where
 | box (T:TypeId) (p:Pat)
 | acc
 | map (K E:TypeId)
 | iter
 | bld (T:TypeId)
 | arr (E:TypeId) (fl:Nat)
 | mit (K E:TypeId)
def ais:List Nat->List SV->Env
 | t::ts,v::vs=>fun u=>bif Nat.beq u t then v else ais ts vs u
 | _,_=>fun _=>.undef
mutual
def Pat.build:Pat->List SV->SV×List SV
 | .leaf,v::vs=>(v,vs)
 | .leaf,[]=>(.undef,[])
 | .agg T ps,vs=>(.agg T (ahs ps vs).1,(ahs ps vs).2)
def ahs:List Pat->List SV->List SV×List SV
 | [],vs=>([],vs)
 | p::ps,vs=>((p.build vs).1::(ahs ps (p.build vs).2).1,(ahs ps (p.build vs).2).2)
end
def toSt:List BSh->List SV->List BX
 | .acc::r,vs=>.acc 0::toSt r vs
 | .box T p::r,vs=>.box T (p.build vs).1::toSt r (p.build vs).2
 | .map K E::r,v::vs=>.map K E (match v with | .map _ _ es=>es | _=>[])::toSt r vs
 | .iter::r,v::u::vs=>.iter (match v with | .str s=>s | _=>[]) (match u with | .int _ n=>n.toNat | _=>0)::toSt r vs
 | .bld T::r,v::vs=>.bld T (match v with | .str s=>s | _=>[])::toSt r vs
 | .arr E fl::r,v::vs=>.arr E fl (match v with | .slice _ xs=>xs | _=>[])::toSt r vs
 | .mit K E::r,v::vs=>.mit K E none (match v with | .map _ _ es=>es | _=>[])::toSt r vs
 | _,_=>[]
def a1s (bs:List BSh) (k:Nat):Bool:=match bs[k]? with | some .acc=>true | _=>false
def a6o (bs:List BSh) (k:Nat):Bool:=match bs[k]? with | some (.box _ _)=>true | _=>false
def a7c (bs:List BSh) (k:Nat):Bool:=match bs[k]? with | some (.map _ _)=>true | _=>false
def a4b (bs:List BSh) (k:Nat):Bool:=match bs[k]? with | some .iter=>true | _=>false
def a7e (bs:List BSh) (k:Nat):Bool:=match bs[k]? with | some (.mit _ _)=>true | _=>false
def a6n (bs:List BSh) (k:Nat):Bool:=match bs[k]? with | some (.bld _)=>true | _=>false
def akc (bs:List BSh) (s:SV):Bool:=
 match s with
 | .ref k _ _=>a6o bs k
 | .mref k=>a7c bs k
 | .mitr k=>a7e bs k
 | .iref k=>a4b bs k
 | .bref k _=>a6n bs k
 | .nils=>true
 | _=>false
def apk (bs:List BSh) (s:SV):Bool:=
 match s with
 | .fn _ _ cs=>cs.all (akc bs)
 | s=>akc bs s
def an3 (bs:List BSh) (k fl:Nat) (E:TypeId):Bool:=match bs[k]? with | some (.arr E' fl')=>Nat.beq E E'&&Nat.beq fl fl' | _=>false
def ai3 (P:Program) (st:List BX) (bs:List BSh) (sh:Shape) (s:SV):Option SV:=
 match sh with
 | .acc k E=>
  match s with
  | .acc k' g E' xs=>bif Nat.beq k k'&&Nat.beq E E'&&ana st k g&&a1s bs k then some (.acc k 0 E xs) else none
  | .nils=>bif a1s bs k then some (.acc k 0 E []) else none
  | _=>none
 | .slice E=>match s with | .nils=>some (.slice E []) | s=>ain P none s
 | .con c=>
  match c with
  | .arr k fl E=>
   match s with
   | .arr k' g E'=>bif Nat.beq k k'&&Nat.beq E E'&&adv st k g&&an3 bs k fl E then some (.arr k fl E) else none
   | .nils=>bif an3 bs k fl E&&Nat.ble st.length k then some (.arr k fl E) else none
   | _=>none
  | .ifc T (.arr k fl E)=>
   match s with
   | .ifc T' (.arr k' g E')=>bif Nat.beq T T'&&(Nat.beq k k'&&Nat.beq E E'&&adv st k g&&an3 bs k fl E) then some (.ifc T (.arr k fl E)) else none
   | _=>none
  | _=>bif apk bs s then some s else none
 | .ifc _=>match s with | .ifc T x=>(match ain P none x with | some y=>some (.ifc T y) | none=>none) | _=>none
 | .ifs _ E=>match s with | .ifc T .nils=>some (.ifc T (.slice E [])) | .ifc T x=>(match ain P none x with | some y=>some (.ifc T y) | none=>none) | _=>none
 | _=>ain P none s
def afg (P:Program) (st:List BX) (bs:List BSh) (e:Env):List Nat->List Shape->Option (List SV)
 | [],_=>some []
 | t::ts,sh::shs=>match ai3 P st bs sh (e t),afg P st bs e ts shs with | some v,some vs=>some (v::vs) | _,_=>none
 | _::_,[]=>none
mutual
def af6 (P:Program) (st:List BX) (bs:List BSh):Pat->SV->List Shape->Option (List SV×List Shape)
 | .leaf,s,sh::shs=>match ai3 P st bs sh s with | some v=>some ([v],shs) | none=>none
 | .leaf,_,[]=>none
 | .agg T ps,s,shs=>match af4 P T s with | some fs=>aeb P st bs ps fs shs | none=>none
def aeb (P:Program) (st:List BX) (bs:List BSh):List Pat->List SV->List Shape->Option (List SV×List Shape)
 | [],[],shs=>some ([],shs)
 | p::ps,s::ss,shs=>
  match af6 P st bs p s shs with
  | some (vs,shs1)=>match aeb P st bs ps ss shs1 with | some (ws,shs2)=>some (vs++ws,shs2) | none=>none
  | none=>none
 | _,_,_=>none
end
def aeq (P:Program) (st0:List BX) (bs0:List BSh):List BSh->List BX->List Shape->Option (List SV)
 | [],_,_=>some []
 | .acc::r,[],shs=>aeq P st0 bs0 r [] shs
 | .acc::r,.acc _::st,shs=>aeq P st0 bs0 r st shs
 | .box T p::r,.box T' s::st,shs=>
  bif Nat.beq T T' then
   match af6 P st0 bs0 p s shs with
   | some (vs,shs1)=>match aeq P st0 bs0 r st shs1 with | some ws=>some (vs++ws) | none=>none
   | none=>none
  else none
 | .map K E::r,.map K' E' es::st,_::shs=>bif Nat.beq K K'&&Nat.beq E E' then (match aeq P st0 bs0 r st shs with | some vs=>some (.map K E es::vs) | _=>none) else none
 | .iter::r,.iter s p::st,_::_::shs=>(match aeq P st0 bs0 r st shs with | some vs=>some (.str s::.int .i64 p::vs) | _=>none)
 | .bld T::r,.bld T' s::st,_::shs=>bif Nat.beq T T' then (match aeq P st0 bs0 r st shs with | some vs=>some (.str s::vs) | _=>none) else none
 | .arr E _::r,[],_::shs=>(match aeq P st0 bs0 r [] shs with | some vs=>some (.slice E []::vs) | _=>none)
 | .arr E fl::r,.arr E' g xs::st,_::shs=>bif Nat.beq E E'&&(bif Nat.beq fl 0 then Nat.beq g 0 else true) then (match aeq P st0 bs0 r st shs with | some vs=>some (.slice E xs::vs) | _=>none) else none
 | .mit K E::r,.mit K' E' _ es::st,_::shs=>bif Nat.beq K K'&&Nat.beq E E' then (match aeq P st0 bs0 r st shs with | some vs=>some (.map K E es::vs) | _=>none) else none
 | _,_,_=>none
structure Frame where
 slots:List Nat
 bs:List BSh
 sh:List Shape
@[reducible] def Frame.ty (F:Frame):Type:=TyL F.sh
def Frame.env (F:Frame) (x:F.ty):Env:=ais F.slots (encL F.sh x)
def Frame.st (F:Frame) (x:F.ty):List BX:=toSt F.bs ((encL F.sh x).drop F.slots.length)
def Frame.dec (F:Frame) (P:Program) (e:Env) (st:List BX):Option F.ty:=
 match afg P st F.bs e F.slots F.sh,aeq P st F.bs F.bs st (F.sh.drop F.slots.length) with
 | some vs,some us=>getL F.sh (vs++us)
 | _,_=>none
theorem awq:∀ (ts:List Nat) (vs:List SV),(∀ u want y,SV.gd u want y∉vs)->NoGd (ais ts vs):=by
 intro ts
 induction ts with
 | nil=>intro vs _ t u want x h;simp [ais] at h
 | cons t ts ih=>
  intro vs hv t' u want x h
  cases vs with
  | nil=>simp [ais] at h
  | cons v vs=>
   simp only [ais] at h
   cases hb:Nat.beq t' t with
   | true=>rw [hb] at h;simp only [cond_true] at h;exact hv u want x (by rw [h];simp)
   | false=>rw [hb] at h;exact ih vs (fun u want y hm=>hv u want y (List.mem_cons_of_mem _ hm)) t' u want x h
theorem Frame.noGd (F:Frame) (x:F.ty):NoGd (F.env x):=awq _ _ (ayy F.sh x)
theorem ano {P:Program}{st:List BX}{bs:List BSh}{e:Env}:∀ (ts:List Nat) (shs:List Shape) (vs:List SV),afg P st bs e ts shs=some vs->vs.length=ts.length/\∀ t,ais ts vs t=.undef∨∃ sh,ai3 P st bs sh (e t)=some (ais ts vs t):=by
 intro ts
 induction ts with
 | nil=>intro shs vs h;simp [afg] at h;subst h;exact ⟨rfl,fun t=>Or.inl rfl⟩
 | cons t ts ih=>
  intro shs vs h
  cases shs with
  | nil=>simp [afg] at h
  | cons sh shs=>
   simp only [afg] at h
   split at h
   ·rename_i v vs' h1 h2
    cases h
    obtain ⟨l,hh⟩:=ih shs vs' h2
    refine ⟨by simp [l],fun u=>?_⟩
    simp only [ais]
    cases hb:Nat.beq u t with
    | true=>have:=Nat.eq_of_beq_eq_true hb;subst this;exact Or.inr ⟨sh,h1⟩
    | false=>exact hh u
   ·cases h
mutual
theorem ago {P:Program}{st:List BX}{bs:List BSh}:∀ (p:Pat) (s:SV) (shs:List Shape) (vs:List SV) (shs':List Shape) (rest:List SV),af6 P st bs p s shs=some (vs,shs')->(p.build (vs++rest)).2=rest
 | .leaf,s,sh::shs,vs,shs',rest,h=>by
  simp only [af6] at h
  split at h
  ·simp only [Option.some.injEq,Prod.mk.injEq] at h;obtain ⟨rfl,rfl⟩:=h;rfl
  ·cases h
 | .leaf,s,[],vs,shs',rest,h=>by simp [af6] at h
 | .agg T ps,s,shs,vs,shs',rest,h=>by
  simp only [af6] at h
  split at h
  ·rename_i fs _
   exact ai4 ps fs shs vs shs' rest h
  ·cases h
theorem ai4 {P:Program}{st:List BX}{bs:List BSh}:∀ (ps:List Pat) (ss:List SV) (shs:List Shape) (vs:List SV) (shs':List Shape) (rest:List SV),aeb P st bs ps ss shs=some (vs,shs')->(ahs ps (vs++rest)).2=rest
 | [],[],shs,vs,shs',rest,h=>by
  simp only [aeb,Option.some.injEq,Prod.mk.injEq] at h;obtain ⟨rfl,rfl⟩:=h;rfl
 | [],_::_,shs,vs,shs',rest,h=>by simp [aeb] at h
 | _::_,[],shs,vs,shs',rest,h=>by simp [aeb] at h
 | p::ps,s::ss,shs,vs,shs',rest,h=>by
  simp only [aeb] at h
  split at h
  ·rename_i vs1 shs1 h1
   split at h
   ·rename_i ws shs2 h2
    simp only [Option.some.injEq,Prod.mk.injEq] at h;obtain ⟨rfl,rfl⟩:=h
    simp only [ahs,List.append_assoc]
    rw [ago p s shs vs1 shs1 (ws++rest) h1]
    exact ai4 ps ss shs1 ws _ rest h2
   ·cases h
  ·cases h
end
structure StFit (P:Program) (st0:List BX) (bs0 bs:List BSh) (st st':List BX):Prop where
 len:st'.length=bs.length
 acc:∀ (k:Nat),bs[k]?=some .acc->st'[k]?=some (.acc 0)/\((∃ (g:Nat),st[k]?=some (.acc g))∨st.length<=k)
 box:∀ (k:Nat) (T:TypeId) (p:Pat),bs[k]?=some (.box T p)->∃ (s:SV) (vs rest:List SV) (shs shs':List Shape),st[k]?=some (.box T s)/\af6 P st0 bs0 p s shs=some (vs,shs')/\st'[k]?=some (.box T (p.build (vs++rest)).1)
 map:∀ (k:Nat) (K E:TypeId),bs[k]?=some (.map K E)->∃ (es:List (PV×PV)),st[k]?=some (.map K E es)/\st'[k]?=some (.map K E es)
 iter:∀ (k:Nat),bs[k]?=some .iter->∃ (s:List UInt8) (p:Nat),st[k]?=some (.iter s p)/\st'[k]?=some (.iter s p)
 bld:∀ (k:Nat) (T:TypeId),bs[k]?=some (.bld T)->∃ (s:List UInt8),st[k]?=some (.bld T s)/\st'[k]?=some (.bld T s)
 arr:∀ (k:Nat) (E:TypeId) (fl:Nat),bs[k]?=some (.arr E fl)->∃ (xs:List PV),st'[k]?=some (.arr E fl xs)/\((∃ g,st[k]?=some (.arr E g xs)/\(fl=0->g=0))∨(st.length<=k/\xs=[]))
 mit:∀ (k:Nat) (K E:TypeId),bs[k]?=some (.mit K E)->∃ (es:List (PV×PV)),st'[k]?=some (.mit K E none es)/\∃ c,st[k]?=some (.mit K E c es)
theorem StFit.cons {P:Program}{st0:List BX}{bs0 r:List BSh}{st st':List BX}{b:BSh}{x y:BX} (f:StFit P st0 bs0 r st st') (ha:b=.acc->y=.acc 0/\∃ g,x=.acc g)
 (hb:∀ T p,b=.box T p->∃ (s:SV) (vs rest:List SV) (shs shs':List Shape),x=.box T s/\af6 P st0 bs0 p s shs=some (vs,shs')/\y=.box T (p.build (vs++rest)).1)
 (hm:∀ K E,b=.map K E->∃ es,x=.map K E es/\y=.map K E es) (hi:b=.iter->∃ s p,x=.iter s p/\y=.iter s p) (hl:∀ T,b=.bld T->∃ s,x=.bld T s/\y=.bld T s) (hr:∀ E fl,b=.arr E fl->∃ xs,y=.arr E fl xs/\∃ g,x=.arr E g xs/\(fl=0->g=0)) (hq:∀ K E,b=.mit K E->∃ es,y=.mit K E none es/\∃ c,x=.mit K E c es):StFit P st0 bs0 (b::r) (x::st) (y::st'):=by
 refine ⟨by simp [f.len],fun k hk=>?_,fun k T p hk=>?_,fun k K E hk=>?_,fun k hk=>?_,fun k T hk=>?_,fun k E fl hk=>?_,fun k K E hk=>?_⟩
 ·cases k with
  | zero=>
   obtain ⟨h1,g,h2⟩:=ha (by simpa using hk)
   exact ⟨by simp [h1],Or.inl ⟨g,by simp [h2]⟩⟩
  | succ k=>
   obtain ⟨h1,h2⟩:=f.acc k (by simpa using hk)
   exact ⟨by simpa using h1,by simpa using h2⟩
 ·cases k with
  | zero=>
   obtain ⟨s,vs,rest,shs,shs',h1,h2,h3⟩:=hb T p (by simpa using hk)
   exact ⟨s,vs,rest,shs,shs',by simp [h1],h2,by simp [h3]⟩
  | succ k=>
   obtain ⟨s,vs,rest,shs,shs',h1,h2,h3⟩:=f.box k T p (by simpa using hk)
   exact ⟨s,vs,rest,shs,shs',by simpa using h1,h2,by simpa using h3⟩
 ·cases k with
  | zero=>
   obtain ⟨es,h1,h2⟩:=hm K E (by simpa using hk)
   exact ⟨es,by simp [h1],by simp [h2]⟩
  | succ k=>
   obtain ⟨es,h1,h2⟩:=f.map k K E (by simpa using hk)
   exact ⟨es,by simpa using h1,by simpa using h2⟩
 ·cases k with
  | zero=>
   obtain ⟨s,p,h1,h2⟩:=hi (by simpa using hk)
   exact ⟨s,p,by simp [h1],by simp [h2]⟩
  | succ k=>
   obtain ⟨s,p,h1,h2⟩:=f.iter k (by simpa using hk)
   exact ⟨s,p,by simpa using h1,by simpa using h2⟩
 ·cases k with
  | zero=>
   obtain ⟨s,h1,h2⟩:=hl T (by simpa using hk)
   exact ⟨s,by simp [h1],by simp [h2]⟩
  | succ k=>
   obtain ⟨s,h1,h2⟩:=f.bld k T (by simpa using hk)
   exact ⟨s,by simpa using h1,by simpa using h2⟩
 ·cases k with
  | zero=>
   obtain ⟨s,h1,g,h2,h3⟩:=hr E fl (by simpa using hk)
   exact ⟨s,by simp [h1],Or.inl ⟨g,by simp [h2],h3⟩⟩
  | succ k=>
   obtain ⟨s,h1,h2⟩:=f.arr k E fl (by simpa using hk)
   refine ⟨s,by simpa using h1,?_⟩
   rcases h2 with ⟨g,h2,h3⟩ | ⟨h2,h3⟩
   ·exact Or.inl ⟨g,by simpa using h2,h3⟩
   ·exact Or.inr ⟨by simpa using h2,h3⟩
 ·cases k with
  | zero=>
   obtain ⟨es,h1,c,h2⟩:=hq K E (by simpa using hk)
   exact ⟨es,by simp [h1],c,by simp [h2]⟩
  | succ k=>
   obtain ⟨es,h1,c,h2⟩:=f.mit k K E (by simpa using hk)
   exact ⟨es,by simpa using h1,c,by simpa using h2⟩
theorem ami {P:Program}{st0:List BX}{bs0:List BSh}:∀ (bs:List BSh) (st:List BX) (shs:List Shape) (us:List SV),aeq P st0 bs0 bs st shs=some us->StFit P st0 bs0 bs st (toSt bs us):=by
 intro bs
 induction bs with
 | nil=>intro st shs us h;simp [aeq] at h;subst h;exact ⟨rfl,fun k h=>by simp at h,fun k T p h=>by simp at h,fun k K E h=>by simp at h,fun k h=>by simp at h,fun k T h=>by simp at h,fun k E fl h=>by simp at h,fun k K E h=>by simp at h⟩
 | cons b r ih=>
  intro st shs us h
  unfold aeq at h
  split at h
  ·contradiction
  ·rename_i hb;injection hb with h1 h2;subst h1;subst h2
   have f:=ih [] _ us h
   refine ⟨by simp [toSt,f.len],fun k hk=>?_,fun k T p hk=>?_,fun k K E hk=>?_,fun k hk=>?_,fun k T hk=>?_,fun k E fl hk=>?_,fun k K E hk=>?_⟩
   ·cases k with
    | zero=>exact ⟨rfl,Or.inr (by simp)⟩
    | succ k=>obtain ⟨h1,h2⟩:=f.acc k (by simpa using hk);exact ⟨by simpa [toSt] using h1,Or.inr (by simp)⟩
   ·cases k with
    | zero=>simp at hk
    | succ k=>obtain ⟨s,vs,rest,shs,shs',h1,_⟩:=f.box k T p (by simpa using hk);simp at h1
   ·cases k with
    | zero=>simp at hk
    | succ k=>obtain ⟨s,h1,_⟩:=f.map k K E (by simpa using hk);simp at h1
   ·cases k with
    | zero=>simp at hk
    | succ k=>obtain ⟨s,p,h1,_⟩:=f.iter k (by simpa using hk);simp at h1
   ·cases k with
    | zero=>simp at hk
    | succ k=>obtain ⟨s,h1,_⟩:=f.bld k T (by simpa using hk);simp at h1
   ·cases k with
    | zero=>simp at hk
    | succ k=>
     obtain ⟨s,h1,h2⟩:=f.arr k E fl (by simpa using hk)
     rcases h2 with ⟨g,h2,_⟩ | ⟨_,h3⟩
     ·simp at h2
     ·exact ⟨s,by simpa [toSt] using h1,Or.inr ⟨by simp,h3⟩⟩
   ·cases k with
    | zero=>simp at hk
    | succ k=>obtain ⟨s,_,_,h1⟩:=f.mit k K E (by simpa using hk);simp at h1
  ·rename_i hb;injection hb with h1 h2;subst h1;subst h2
   exact (ih _ _ us h).cons (fun _=>⟨rfl,_,rfl⟩) (fun T p e=>by cases e) (fun K E e=>by cases e) (fun e=>by cases e) (fun T e=>by cases e) (fun E fl e=>by cases e) (fun K E e=>by cases e)
  ·rename_i T p r' T' s st' hb;injection hb with h1 h2;subst h1;subst h2
   cases hb:Nat.beq T T' with
   | false=>rw [hb] at h;cases h
   | true=>
    rw [hb] at h
    have:=Nat.eq_of_beq_eq_true hb;subst this
    simp only [cond_true] at h
    split at h
    ·rename_i vs shs1 h1
     split at h
     ·rename_i ws h2
      cases h
      have e:toSt (.box T p::r) (vs++ws)=.box T (p.build (vs++ws)).1::toSt r ws:=by
       show _::toSt r (p.build (vs++ws)).2=_
       rw [ago p s _ vs shs1 ws h1]
      rw [e]
      exact (ih _ _ ws h2).cons (fun e=>by cases e) (fun T p e=>by cases e;exact ⟨s,vs,ws,_,shs1,rfl,h1,rfl⟩) (fun K E e=>by cases e) (fun e=>by cases e) (fun T e=>by cases e) (fun E fl e=>by cases e) (fun K E e=>by cases e)
     ·cases h
    ·cases h
  ·rename_i K E r' K' E' es st' sh shs' hb;injection hb with h1 h2;subst h1;subst h2
   cases hb:(Nat.beq K K'&&Nat.beq E E') with
   | false=>rw [hb] at h;cases h
   | true=>
    rw [hb] at h
    simp only [Bool.and_eq_true] at hb
    have:=Nat.eq_of_beq_eq_true hb.1;subst this
    have:=Nat.eq_of_beq_eq_true hb.2;subst this
    simp only [cond_true] at h
    split at h
    ·rename_i vs h2
     cases h
     exact (ih _ _ vs h2).cons (fun e=>by cases e) (fun T p e=>by cases e) (fun K E e=>by cases e;exact ⟨es,rfl,rfl⟩) (fun e=>by cases e) (fun T e=>by cases e) (fun E fl e=>by cases e) (fun K E e=>by cases e)
    ·cases h
  ·rename_i r' s p st' sh sh2 shs' hb;injection hb with h1 h2;subst h1;subst h2
   split at h
   ·rename_i vs h2
    cases h
    exact (ih _ _ vs h2).cons (fun e=>by cases e) (fun T p e=>by cases e) (fun K E e=>by cases e) (fun _=>⟨s,p,rfl,by simp⟩) (fun T e=>by cases e) (fun E fl e=>by cases e) (fun K E e=>by cases e)
   ·cases h
  ·rename_i T r' T' s st' sh shs' hb;injection hb with h1 h2;subst h1;subst h2
   cases hb:Nat.beq T T' with
   | false=>rw [hb] at h;cases h
   | true=>
    rw [hb] at h
    have:=Nat.eq_of_beq_eq_true hb;subst this
    simp only [cond_true] at h
    split at h
    ·rename_i vs h2
     cases h
     exact (ih _ _ vs h2).cons (fun e=>by cases e) (fun T p e=>by cases e) (fun K E e=>by cases e) (fun e=>by cases e) (fun T e=>by cases e;exact ⟨s,rfl,rfl⟩) (fun E fl e=>by cases e) (fun K E e=>by cases e)
    ·cases h
  ·rename_i E fl r' sh shs' hb;injection hb with h1 h2;subst h1;subst h2
   split at h
   case h_2=>cases h
   rename_i vs h2
   cases h
   have f:=ih [] _ vs h2
   refine ⟨by simp [toSt,f.len],fun k hk=>?_,fun k T p hk=>?_,fun k K E hk=>?_,fun k hk=>?_,fun k T hk=>?_,fun k E' fl' hk=>?_,fun k K E hk=>?_⟩
   ·cases k with
    | zero=>simp at hk
    | succ k=>obtain ⟨h1,h2⟩:=f.acc k (by simpa using hk);exact ⟨by simpa [toSt] using h1,Or.inr (by simp)⟩
   ·cases k with
    | zero=>simp at hk
    | succ k=>obtain ⟨s,vs,rest,shs,shs',h1,_⟩:=f.box k T p (by simpa using hk);simp at h1
   ·cases k with
    | zero=>simp at hk
    | succ k=>obtain ⟨s,h1,_⟩:=f.map k K E (by simpa using hk);simp at h1
   ·cases k with
    | zero=>simp at hk
    | succ k=>obtain ⟨s,p,h1,_⟩:=f.iter k (by simpa using hk);simp at h1
   ·cases k with
    | zero=>simp at hk
    | succ k=>obtain ⟨s,h1,_⟩:=f.bld k T (by simpa using hk);simp at h1
   ·cases k with
    | zero=>
     simp at hk
     obtain ⟨rfl,rfl⟩:=hk
     exact ⟨[],by simp [toSt],Or.inr ⟨by simp,rfl⟩⟩
    | succ k=>
     obtain ⟨s,h1,h2⟩:=f.arr k E' fl' (by simpa using hk)
     rcases h2 with ⟨g,h2,_⟩ | ⟨_,h3⟩
     ·simp at h2
     ·exact ⟨s,by simpa [toSt] using h1,Or.inr ⟨by simp,h3⟩⟩
   ·cases k with
    | zero=>simp at hk
    | succ k=>obtain ⟨s,_,_,h1⟩:=f.mit k K E (by simpa using hk);simp at h1
  ·rename_i E fl r' E' g xs st' sh shs' hb;injection hb with h1 h2;subst h1;subst h2
   cases hb:(Nat.beq E E'&&(bif Nat.beq fl 0 then Nat.beq g 0 else true)) with
   | false=>rw [hb] at h;cases h
   | true=>
    rw [hb] at h
    simp only [Bool.and_eq_true] at hb
    have:=Nat.eq_of_beq_eq_true hb.1;subst this
    have hg:fl=0->g=0:=by
     intro e
     have h2:=hb.2
     rw [e] at h2
     exact Nat.eq_of_beq_eq_true h2
    simp only [cond_true] at h
    split at h
    ·rename_i vs h2
     cases h
     exact (ih _ _ vs h2).cons (fun e=>by cases e) (fun T p e=>by cases e) (fun K E e=>by cases e) (fun e=>by cases e) (fun T e=>by cases e) (fun E fl e=>by cases e;exact ⟨xs,by simp,g,rfl,hg⟩) (fun K E e=>by cases e)
    ·cases h
  ·rename_i K E r' K' E' c es st' sh shs' hb;injection hb with h1 h2;subst h1;subst h2
   cases hb:(Nat.beq K K'&&Nat.beq E E') with
   | false=>rw [hb] at h;cases h
   | true=>
    rw [hb] at h
    simp only [Bool.and_eq_true] at hb
    have:=Nat.eq_of_beq_eq_true hb.1;subst this
    have:=Nat.eq_of_beq_eq_true hb.2;subst this
    simp only [cond_true] at h
    split at h
    ·rename_i vs h2
     cases h
     exact (ih _ _ vs h2).cons (fun e=>by cases e) (fun T p e=>by cases e) (fun K E e=>by cases e) (fun e=>by cases e) (fun T e=>by cases e) (fun E fl e=>by cases e) (fun K E e=>by cases e;exact ⟨es,rfl,c,rfl⟩)
    ·cases h
  ·cases h
end Go.Ab
