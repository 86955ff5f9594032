/- The evaluator over abstract values. Nothing is proved here. -/
import Derived.Test.YtofplaamkkpciaaGreatDoorAbVal
set_option linter.unusedVariables false
set_option linter.unusedSimpArgs false
set_option linter.unnecessarySimpa false
namespace Go.Ab
open Go
abbrev Env:=Nat->SV
def Env.set(e:Env)(d:Nat)(v:SV):Env:=λt=>bif Nat.beq t d then v else e t
def put(e:Env)(d:Option Nat)(v:SV):Env:=
 match d with
 |some d=>e.set d v
 |none=>e
def ah2(e:Env):Nat->Nat->Bool->Nat->Bool->Bool
 |0,_,_,_,_=>false
 |f+1,t1,w1,t,w=>bif Nat.beq t1 t&&(bif w1 then w else !w)then true else
  match e t1 with
  |.gd m o _=>ah2 e f m o t w
  |_=>false
def ai9(e:Env):List (Nat×Bool)->Nat->Bool->Bool
 |[],_,_=>false
 |(t1,w1)::r,t,w=>bif ah2 e 8 t1 w1 t w then true else ai9 e r t w
def rd(e:Env)(m:List (Nat×Bool))(s:SV):SV:=
 match s with
 |.gd t w v=>bif ai9 e m t w then v else .undef
 |s=>s
def azt(v:Value):SV:=
 match v with
 |.bool b=>.bool b
 |.int k n=>.int k n
 |.string s=>.str s.data.toList
 |.slice none 0 0=>.nils
 |.nilIface=>.eif true
 |v=>.raw v
def opd(e:Env)(m:List (Nat×Bool))(x:Operand):SV:=
 match x with
 |.tmp t=>rd e m (e t)
 |.const v=>azt v
 |.global _=>.undef
 |.func f=>.fn f 0 []
def bq(b w:Bool):Bool:=bif w then b else !b
def gval(e:Env):Nat->Nat->Bool->Option Bool
 |0,_,_=>none
 |f+1,t,w=>
  match e t with
  |.bool b=>some (bq b w)
  |.gd m o (.bool b)=>
   match gval e f m o with
   |some c=>some (bif bq b w then c else false)
   |none=>none
  |_=>none
def imp(b c:Bool):Bool:=bif c then true else !b
def aac:Nat:=4611686018427387904
def accMax:Nat:=68719476736
def acl(P:Program):List Field->Nat->Option Nat
 |[],n=>some n
 |f::r,n=>bif Nat.beq f.offset n&&!(Nat.beq (P.cellsOf f.type) 0)&&(aah P f.type||Nat.beq (P.cellsOf f.type) 1)then acl P r (n+P.cellsOf f.type)else none
def acs(P:Program)(T:TypeId):Bool:=
 match aggF P T with
 |some m=>
  match acl P m.toList 0 with
  |some n=>Nat.beq n (P.cellsOf T)
  |none=>false
 |none=>false
mutual
def toPV:SV->PV
 |.bool b=>.bool b
 |.int _ n=>.int n
 |.str s=>.str s
 |.slice _ xs=>.slice xs
 |.data _ v=>v
 |.agg _ m=>.agg (ay3 m)
 |.map _ _ es=>.map es
 |.nils=>.slice []
 |.acc _ _ _ xs=>.slice xs
 |.lit _ xs=>.slice xs
 |.raw v=>.raw v
 |_=>.bad
def ay3:List SV->List PV
 |[]=>[]
 |s::r=>toPV s::ay3 r
end
mutual
def isOf(P:Program)(T:TypeId):SV->Bool
 |.bool _=>match P.underlying T with|some .bool=>true|_=>false
 |.int k _=>match P.underlying T with|some (.int k')=>decide (k=k')|_=>false
 |.str _=>match P.underlying T with|some .string=>true|_=>false
 |.slice E _=>match P.underlying T with|some (.slice E')=>Nat.beq E E'|_=>false
 |.data m _=>Nat.beq T m
 |.agg m o=>Nat.beq T m&&acs P T&&(match aggF P T with|some ds=>a5u P ds.toList o|none=>false)
 |.map K E _=>match P.underlying T with|some (.map K' E')=>Nat.beq K K'&&Nat.beq E E'|_=>false
 |.nils=>match P.underlying T with|some (.slice _)=>true|_=>false
 |.acc _ _ E _=>match P.underlying T with|some (.slice E')=>Nat.beq E E'|_=>false
 |.lit E _=>match P.underlying T with|some (.slice E')=>Nat.beq E E'|_=>false
 |.raw v=>rawT P T&&v.oneCell'
 |_=>false
def a5u(P:Program):List Field->List SV->Bool
 |[],[]=>true
 |f::r,s::q=>isOf P f.type s&&a5u P r q
 |_,_=>false
end
def afl(P:Program)(T:TypeId)(s:SV):Bool:=
 match s with
 |.data m _|.agg m _=>Nat.beq T m&&aah P T
 |.undef|.tup _|.gd _ _ _|.nx _ _ _|.avw _ _ _ _|.lits _ _=>false
 |.raw v=>!aah P T&&Nat.beq (P.cellsOf T) 1&&v.oneCell'
 |_=>!aah P T&&Nat.beq (P.cellsOf T) 1
def ais(P:Program)(T:TypeId)(v:PV):List Field->Nat->List SV
 |[],_=>[]
 |f::r,i=>ofPV P f.type (v.fld i)::ais P T v r (i+1)
def ahx(P:Program)(TB:TypeId)(s:SV):Option (List SV):=
 bif acs P TB then
  match s with
  |.agg T m=>bif Nat.beq TB T then some m else none
  |.data T v=>bif Nat.beq TB T then(match aggF P TB with|some ds=>some (ais P T v ds.toList 0)|none=>none)else none
  |_=>none
 else none
def aim(P:Program):TypeId->SV->List Nat->Option SV
 |_,s,[]=>some s
 |TB,s,i::p=>
  match ahx P TB s,aggF P TB with
  |some o,some m=>match o[i]?,m[i]? with|some x,some f=>aim P f.type x p|_,_=>none
  |_,_=>none
def ai0(P:Program):TypeId->SV->List Nat->SV->Option SV
 |_,_,[],x=>some x
 |TB,s,i::p,x=>
  match ahx P TB s,aggF P TB with
  |some m,some o=>
   match m[i]?,o[i]? with
   |some y,some f=>match ai0 P f.type y p x with|some z=>some (.agg TB (m.set i z))|none=>none
   |_,_=>none
  |_,_=>none
def aa8(P:Program):Nat->TypeId->SV
 |0,_=>.undef
 |n+1,T=>
  match P.underlying T with
  |some .bool=>.bool false
  |some (.int k)=>.int k 0
  |some .string=>.str []
  |some (.slice _)=>.nils
  |some (.struct m)=>.agg T (m.toList.map λf=>aa8 P n f.type)
  |some (.array k E)=>(match arrF P k E with|some m=>.agg T (m.toList.map λf=>aa8 P n f.type)|none=>.data T (.agg (List.replicate k (toPV (aa8 P n E)))))
  |some (.map K E)=>.map K E []
  |some (.pointer _)=>.raw (.pointer none)
  |some (.func _ _ _)=>.raw .nilFunc
  |some (.interface _)=>.raw .nilIface
  |_=>.undef
def zeroCells?(P:Program):Nat->TypeId->List Value->Bool
 |0,_,_=>false
 |n+1,T,cs=>
  match P.underlying T,cs with
  |some .bool,[.bool b]=>!b
  |some (.int k),[.int t m]=>decide (k=t)&&decide (m=0)
  |some .string,[.string s]=>s.data.toList.isEmpty
  |some (.slice _),[.slice none 0 0]=>true
  |some (.struct o),cs=>acs P T&&Nat.beq cs.length (P.cellsOf T)&&o.toList.all λf=>zeroCells? P n f.type ((cs.drop f.offset).take (P.cellsOf f.type))
  |some (.array k E),cs=>Nat.beq cs.length (P.cellsOf T)&&Nat.beq (P.cellsOf T) (k*P.cellsOf E)&&(aah P E||Nat.beq (P.cellsOf E) 1)&&isOf P E (aa8 P n E)&&(List.range k).all λi=>zeroCells? P n E ((cs.drop (i*P.cellsOf E)).take (P.cellsOf E))
  |some (.map _ _),[.map none]=>true
  |some (.pointer _),[.pointer none]=>true
  |some (.func _ _ _),[.nilFunc]=>true
  |some (.interface _),[.nilIface]=>true
  |_,_=>false
def acg(P:Program)(T:TypeId):Bool:=
 match(P.info? T).map (·.zero)with
 |some (some z)=>zeroCells? P 12 T z.cells.toList&&Nat.beq z.cells.size (P.cellsOf T)&&(match z with|.agg _=>aah P T|_=>!aah P T)
 |_=>false
def aer(m:BinOp)(k:IntKind)(x y:Int):Int:=
 match m with
 |.and=>k.wrap (BitVec.ofInt k.bits x &&& BitVec.ofInt k.bits y).toNat
 |.or=>k.wrap (BitVec.ofInt k.bits x ||| BitVec.ofInt k.bits y).toNat
 |.xor=>k.wrap (BitVec.ofInt k.bits x ^^^ BitVec.ofInt k.bits y).toNat
 |_=>k.wrap (BitVec.ofInt k.bits x &&& ~~~(BitVec.ofInt k.bits y)).toNat
inductive Ac where
 |fail
 |val (c:Bool) (v:SV)
 |upd (c:Bool) (v:SV) (st:List BX)
 |call (f:FuncId) (args:List SV)
 |pan (v:SV)
 deriving Inhabited
def a5s(m:BinOp)(k:IntKind)(x y:Int):Ac:=
 match m with
 |.add=>.val true (.int k (k.wrap (x+y)))
 |.sub=>.val true (.int k (k.wrap (x-y)))
 |.mul=>.val true (.int k (k.wrap (x*y)))
 |.quo=>.val (!(decide (y=0))) (.int k (k.wrap (x.tdiv y)))
 |.rem=>.val (!(decide (y=0))) (.int k (x.tmod y))
 |.and|.or|.xor|.andNot=>.val true (.int k (aer m k x y))
 |.eql=>.val true (.bool (x==y))
 |.neq=>.val true (.bool (x != y))
 |.lss=>.val true (.bool (decide (x<y)))
 |.leq=>.val true (.bool (decide (x<=y)))
 |.gtr=>.val true (.bool (decide (x>y)))
 |.geq=>.val true (.bool (decide (x>=y)))
 |_=>.fail
def a7b(m:BinOp)(x y:Bn):Ac:=
 match m with
 |.add=>.val (decide (x.length+y.length<=aac)) (.str (x++y))
 |.eql=>.val true (.bool (x==y))
 |.neq=>.val true (.bool (!(x==y)))
 |.lss=>.val true (.bool (Op.bytesLess x y))
 |.leq=>.val true (.bool (Op.bytesLess x y||x==y))
 |.gtr=>.val true (.bool (!(Op.bytesLess x y||x==y)))
 |.geq=>.val true (.bool (!(Op.bytesLess x y)))
 |_=>.fail
def atc(m:BinOp)(x y:Bool):Ac:=
 match m with
 |.eql=>.val true (.bool (x==y))
 |.neq=>.val true (.bool (!(x==y)))
 |_=>.fail
def a0f(P:Program)(T:TypeId):Bool:=match P.underlying T with|some .bool=>true|_=>false
def aut(P:Program)(T:TypeId)(x y:SV):Option Bool:=
 match P.underlying T,x,y with
 |some .bool,.bool a,.bool b=>some (a==b)
 |some (.int _),.int k a,.int m b=>bif decide (k=m)then some (a==b)else none
 |some .string,.str a,.str b=>some (a==b)
 |_,_,_=>none
def ado(P:Program):List Field->List SV->List SV->Option Bool
 |[],[],[]=>some true
 |f::ds,x::xs,y::ys=>match aut P f.type x y,ado P ds xs ys with|some b,some c=>some (bif b then c else false)|_,_=>none
 |_,_,_=>none
def aev(P:Program)(o:BinOp)(T:TypeId)(x y:SV):Ac:=
 match P.underlying T,ahx P T x,ahx P T y with
 |some (.struct m),some xs,some ys=>
  bif m.toList.all (λf=>!(f.name== "_"))&&!(P.stoodInHeld T)&&!(P.eqGuardType P.depth T)then
   match o,ado P m.toList xs ys with
   |.eql,some b=>.val true (.bool b)
   |.neq,some b=>.val true (.bool (!b))
   |_,_=>.fail
  else .fail
 |_,_,_=>.fail
def ajj(P:Program)(T:TypeId):Bool:=match P.underlying T with|some (.slice _)=>true|_=>false
def ae4(m:BinOp)(b:Bool):Ac:=
 match m with
 |.eql=>.val true (.bool b)
 |.neq=>.val true (.bool (!b))
 |_=>.fail
def azj(P:Program)(m:BinOp)(T:TypeId)(x y:SV):Ac:=
 match x,y with
 |.int k a,.int o b=>
  match m with
  |.shl=>.val (decide (0<=b)) (.int k (k.wrap (a*2^(min b.toNat k.bits))))
  |.shr=>.val (decide (0<=b)) (.int k (a.fdiv (2^(min b.toNat k.bits))))
  |m=>bif decide (k=o)then a5s m k a b else .fail
 |.str a,.str b=>a7b m a b
 |.bool a,.bool b=>bif a0f P T then atc m a b else .fail
 |.sln _ _,.nils=>bif ajj P T then ae4 m false else .fail
 |.nils,.nils=>bif ajj P T then ae4 m true else .fail
 |x,y=>aev P m T x y
def aov(P:Program)(T:TypeId):Bool:=match P.underlying T with|some (.interface _)=>true|_=>false
def a9z(y:Operand):Bool:=match y with|.const .nilIface=>true|_=>false
def ahn(m:BinOp)(x:SV):Ac:=
 match m,x with
 |.eql,.eif b=>.val true (.bool b)
 |.neq,.eif b=>.val true (.bool (!b))
 |.eql,.ifc _ _=>.val true (.bool false)
 |.neq,.ifc _ _=>.val true (.bool true)
 |.eql,.raw .nilIface=>.val true (.bool true)
 |.neq,.raw .nilIface=>.val true (.bool false)
 |_,_=>.fail
def apg(P:Program)(m:BinOp)(T:TypeId)(y:Operand)(a b:SV):Ac:=bif a9z y&&aov P T then(match b with|.eif true=>ahn m a|_=>.fail)else azj P m T a b
def unAc(m:UnOp)(x:SV):Ac:=
 match m,x with
 |.not,.bool b=>.val true (.bool (!b))
 |.neg,.int k n=>.val true (.int k (k.wrap (0-n)))
 |.xor,.int k n=>.val true (.int k (aer .xor k (if k.signed then -1 else k.max) n))
 |_,_=>.fail
def an5(s:SV):Option (List PV):=
 match s with
 |.slice _ xs=>some xs
 |.acc _ _ _ xs=>some xs
 |.lit _ xs=>some xs
 |.sln _ xs=>some xs
 |.nils=>some []
 |_=>none
def an0(P:Program)(E:TypeId)(s:SV):Bool:=
 match s with
 |.slice m _|.acc _ _ m _|.lit m _|.sln m _=>Nat.beq E m
 |.nils=>true
 |_=>false
def a9y(P:Program)(E:TypeId):Bool:=match P.underlying E with|some (.int .u8)=>true|_=>false
def aa5(v:PV):UInt8:=UInt8.ofNat v.asInt.toNat
def ad6(P:Program)(m E:TypeId):Bool:=(match P.underlying m with|some (.slice E')=>Nat.beq E' E|_=>false)&&a9y P E&&Nat.beq (P.cellsOf E) 1
def apu(P:Program)(m o:TypeId)(x:SV):Ac:=
 bif (P.underlying m).isSome then
  match P.underlying o,x with
  |some (.int k),.int _ n=>.val true (.int k (k.wrap n))
  |some .string,.str s=>.val true (.str s)
  |some .string,.slice E xs=>bif ad6 P m E then .val true (.str (xs.map aa5))else .fail
  |some .string,.acc _ _ E xs=>bif ad6 P m E then .val true (.str (xs.map aa5))else .fail
  |some .string,.lit E xs=>bif ad6 P m E then .val true (.str (xs.map aa5))else .fail
  |some .string,.int _ n=>.val true (.str (Utf8.encode n).data.toList)
  |_,_=>.fail
 else .fail
def awv(P:Program)(TB E:TypeId):Bool:=match P.underlying TB with|some (.array n E')=>Nat.beq E E'&&Nat.beq (P.cellsOf TB) (n*P.cellsOf E)|_=>false
def afp(P:Program)(st:List BX)(o m:TypeId)(x:SV):Ac:=
 match x with
 |.asl k z n E=>
  match P.underlying m,st[k]? with
  |some .string,some (.box TB (.data t v))=>bif Nat.beq TB t&&awv P TB E&&ad6 P o E then .val true (.str (((v.parts.drop z).take n).map aa5))else .fail
  |_,_=>.fail
 |x=>apu P o m x
def ad1(st:List BX)(k g:Nat)(E:TypeId):Option (List PV):=match st[k]? with|some (.arr E' g' xs)=>(bif Nat.beq g g'&&Nat.beq E E' then some xs else none)|_=>none
def au7(P:Program)(T:TypeId)(st:List BX)(x:SV):Ac:=
 match P.underlying T,x with
 |some .string,.str s=>.val true (.int .i64 s.length)
 |some (.slice _),.slice _ xs=>.val true (.int .i64 xs.length)
 |some (.slice _),.acc _ _ _ xs=>.val true (.int .i64 xs.length)
 |some (.slice _),.lit _ xs=>.val true (.int .i64 xs.length)
 |some (.slice _),.nils=>.val true (.int .i64 0)
 |some (.slice _),.arr k g E=>match ad1 st k g E with|some xs=>.val true (.int .i64 xs.length)|none=>.fail
 |some (.slice _),.avw k g m E=>match ad1 st k g E with|some xs=>.val true (.int .i64 ((xs.length-m:Nat):Int))|none=>.fail
 |some (.map _ _),.map _ _ es=>.val true (.int .i64 es.length)
 |some (.map _ _),.mref k=>match st[k]? with|some (.map _ _ es)=>.val true (.int .i64 es.length)|_=>.fail
 |_,_=>.fail
def afz(st:List BX)(k g:Nat):Bool:=match st[k]? with|some (.arr _ g' _)=>Nat.beq g g'|_=>false
def apb(st:List BX)(k g:Nat):Bool:=match st[k]? with|some (.acc g')=>Nat.beq g g'|_=>false
def bgt(st:List BX)(y:SV):Option (List PV):=match y with|.arr k g E=>ad1 st k g E|y=>an5 y
def a8v(P:Program)(E:TypeId)(y:SV):Bool:=match y with|.arr _ _ E'=>Nat.beq E E'|y=>an0 P E y
def acy(P:Program)(st:List BX)(T:TypeId)(x y:SV):Ac:=
 match P.underlying T,bgt st y with
 |some (.slice E),some ys=>
  bif a8v P E y&&Nat.ble (P.bytesOf E) 512&&!(Nat.beq (P.bytesOf E) 0)&&!(Nat.beq (P.cellsOf E) 0)&&acg P E then
   match x with
   |.nils=>.upd (decide (ys.length<=accMax)) (.acc st.length 0 E ys) (st++[.acc 0])
   |.acc k g m xs=>bif Nat.beq E m&&apb st k g then
         .upd (decide (xs.length+ys.length<=accMax)) (.acc k (g+1) E (xs++ys)) (st.set k (.acc (g+1)))else .fail
   |.lit m []=>bif Nat.beq E m then .upd (decide (ys.length<=accMax)) (.arr st.length 1 E) (st++[.arr E 1 ys])else .fail
   |.lit m (x::xs)=>bif Nat.beq E m then .upd (decide ((x::xs).length+ys.length<=accMax)) (.slice E (x::xs++ys)) st else .fail
   |.arr k g m=>bif Nat.beq E m then(match ad1 st k g E with|some xs=>.upd (decide (xs.length+ys.length<=accMax)) (.arr k (g+1) E) (st.set k (.arr E (g+1) (xs++ys)))|none=>.fail)else .fail
   |_=>.fail
  else .fail
 |_,_=>.fail
def ajg(m:Bool)(a:Int):List SV->Option Int
 |[]=>some a
 |.int _ b::r=>ajg m (bif m then(if b>a then b else a)else(if b<a then b else a)) r
 |_=>none
def aed(m:Bool):List SV->Ac
 |.int k a::r=>match ajg m a r with|some n=>.val true (.int k n)|none=>.fail
 |_=>.fail
def aa7(P:Program)(E:TypeId):Bool:=!(Nat.beq (P.cellsOf E) 0)&&(P.underlying E).isSome&&(aah P E||Nat.beq (P.cellsOf E) 1)
def aey(m:List SV):List (Nat×SV)->Option (List SV)
 |[]=>some m
 |(i,v)::r=>bif Nat.blt i m.length then aey (m.set i v) r else none
def ao1(P:Program)(m:Array Field)(p:Nat×SV):Bool:=match m[p.1]? with|some f=>afl P f.type p.2|none=>false
def afr(P:Program)(n:Nat)(E:TypeId)(p:Nat×SV):Bool:=Nat.blt p.1 n&&isOf P E p.2
def ady(m:List PV):List (Nat×SV)->List PV
 |[]=>m
 |(i,v)::r=>ady (m.set i (toPV v)) r
def aki(P:Program)(T:TypeId)(parts:List (Nat×SV)):Ac:=
 match P.underlying T,aa8 P 12 T with
 |some (.array n E),.data _ (.agg zs)=>bif acg P T&&aa7 P E&&Nat.beq (P.cellsOf T) (n*P.cellsOf E)&&parts.all (afr P n E)then .val true (.data T (.agg (ady zs parts)))else .fail
 |some (.struct m),.agg _ zs=>
  bif acg P T&&acs P T&&parts.all (ao1 P m)then
   match aey zs parts with
   |some o=>.val true (.agg T o)
   |none=>.fail
  else .fail
 |_,_=>.fail
def alb(P:Program)(T:TypeId)(n:Nat)(parts:List (Nat×SV)):Option SV:=
 match P.underlying T,n,parts with
 |some (.slice E),1,[(0,.agg m o)]=>bif !(isOf P E (.agg m o))&&afl P E (.agg m o)&&acg P E&&Nat.ble (P.cellsOf E) 4096 then some (.lits E [.agg m o])else none
 |_,_,_=>none
def ac2(P:Program)(T:TypeId)(n:Nat)(parts:List (Nat×SV)):Ac:=
 match alb P T n parts with
 |some v=>.val true v
 |none=>
 match P.underlying T with
 |some (.slice E)=>
  bif acg P E&&isOf P E (aa8 P 12 E)&&!(Nat.beq (P.cellsOf E) 0)&&Nat.ble (n*P.cellsOf E) 4096&&parts.all (afr P n E)then
   .val true (.lit E (ady (List.replicate n (toPV (aa8 P 12 E))) parts))else .fail
 |_=>.fail
def ahy(P:Program)(T:TypeId)(st:List BX)(a:SV):Ac:=
 match a with
 |.pto m v=>bif Nat.beq T m&&(P.underlying T).isSome then .val true (ofPV P T v)else .fail
 |.ref k path m=>
  bif Nat.beq T m&&(P.underlying T).isSome then
   match st[k]? with
   |some (.box TB s)=>bif aah P T||Nat.beq (P.cellsOf T) 1 then(match aim P TB s path with|some x=>.val true x|none=>.fail)else .fail
   |_=>.fail
  else .fail
 |.eref k i E=>
  bif Nat.beq T E&&aa7 P E then
   match st[k]? with
   |some (.box TB s)=>bif isOf P TB s&&awv P TB E then .val true (ofPV P E ((toPV s).fld i))else .fail
   |_=>.fail
  else .fail
 |.aref k g i E path m=>
  bif Nat.beq T m&&aa7 P E&&aa7 P T then
   match ad1 st k g E with
   |some xs=>(match aim P E (ofPV P E (xs.getD i .bad)) path with|some x=>.val true x|none=>.fail)
   |none=>.fail
  else .fail
 |_=>.fail
def ad8(P:Program)(T:TypeId)(st:List BX)(a x:SV):Ac:=
 match a with
 |.ref k path m=>
  bif Nat.beq T m&&afl P T x&&!(Nat.beq (P.cellsOf T) 0)then
   match st[k]? with
   |some (.box TB s)=>match ai0 P TB s path x with|some s'=>.upd true .undef (st.set k (.box TB s'))|none=>.fail
   |_=>.fail
  else .fail
 |.eref k i E=>
  bif Nat.beq T E&&isOf P E x&&aa7 P E then
   match st[k]? with
   |some (.box TB (.data o v))=>bif Nat.beq TB o&&awv P TB E then .upd true .undef (st.set k (.box TB (.data TB (.agg (v.parts.set i (toPV x))))))else .fail
   |_=>.fail
  else .fail
 |.aref k g i E path m=>
  bif Nat.beq T m&&aa7 P E&&afl P T x&&!(Nat.beq (P.cellsOf T) 0)then
   match ad1 st k g E with
   |some xs=>
    match ai0 P E (ofPV P E (xs.getD i .bad)) path x with
    |some y=>bif isOf P E y then .upd true .undef (st.set k (.arr E g (xs.set i (toPV y))))else .fail
    |none=>.fail
   |none=>.fail
  else .fail
 |_=>.fail
mutual
def aoh:SV->List Nat
 |.arr k _ _=>[k]
 |.mref k=>[k]
 |.agg _ m=>aww m
 |_=>[]
def aww:List SV->List Nat
 |[]=>[]
 |s::r=>aoh s++aww r
end
mutual
def frzS(st:List BX):SV->SV
 |.arr k g E=>(match ad1 st k g E with|some xs=>.slice E xs|none=>.undef)
 |.mref k=>(match st[k]? with|some (.map K E es)=>.map K E es|_=>.undef)
 |.agg T m=>.agg T (frzL st m)
 |s=>s
def frzL(st:List BX):List SV->List SV
 |[]=>[]
 |s::r=>frzS st s::frzL st r
end
def aep(P:Program)(T:TypeId)(st:List BX)(a x:SV):Ac:=
 match a with
 |.aref k _ _ _ _ _=>
  match aoh x with
  |[j]=>(match st[j]? with|some (.arr E g _)=>(bif Nat.beq j k then .fail else ad8 P T (st.set j (.arr E (g+1) [])) a (frzS st x))|_=>.fail)
  |_=>ad8 P T st a x
 |_=>ad8 P T st a x
def bgp(P:Program):Nat->TypeId->Bool
 |0,_=>false
 |n+1,T=>
  match P.underlying T with
  |some (.struct m)=>
   match m.toList with
   |[f]=>Nat.beq f.offset 0&&bgp P n f.type
   |[f,g]=>(match P.underlying f.type with|some (.pointer e)=>Nat.beq e T|_=>false)&&(match P.underlying g.type with|some (.slice e)=>a9y P e&&Nat.beq (P.cellsOf e) 1|_=>false)&&Nat.beq f.offset 0&&Nat.beq g.offset 1
   |_=>false
  |_=>false
def azk(P:Program)(T:TypeId):Bool:=
 match(P.info? T).bind (λi=>i.zero)with
 |some (Value.agg cs)=>(match cs.toList with|[.pointer none,.slice none 0 0]=>true|_=>false)
 |_=>false
def aj5(P:Program)(T:TypeId):Bool:=bgp P 3 T&&azk P T
def ac3(P:Program)(st:List BX)(S:TypeId)(i:Nat)(a:SV):Ac:=
 match P.underlying S with
 |some (.struct m)=>
  match m[i]? with
  |some f=>
   bif Nat.beq (P.cellsOf f.type) 0 then .fail else
   match a with
   |.pto T v=>bif Nat.beq S T then .val true (.pto f.type (v.fld i))else .fail
   |.ref k path T=>bif Nat.beq S T then .val true (.ref k (path++[i]) f.type)else .fail
   |.bref k T=>bif Nat.beq S T&&Nat.beq f.offset 0 then .val true (.bref k f.type)else .fail
   |.aref k g j E path T=>bif Nat.beq S T&&afz st k g then .val true (.aref k g j E (path++[i]) f.type)else .fail
   |_=>.fail
  |none=>.fail
 |_=>.fail
def akn(P:Program)(S:TypeId)(i:Nat)(a:SV):Ac:=
 match P.underlying S with
 |some (.struct m)=>
  match m[i]? with
  |some f=>
   bif acs P S&&aa7 P f.type then
    match a with
    |.data T v=>bif Nat.beq S T then .val true (ofPV P f.type (v.fld i))else .fail
    |.agg T vs=>bif Nat.beq S T then(match vs[i]? with|some v=>.val true v|none=>.fail)else .fail
    |_=>.fail
   else .fail
  |none=>.fail
 |_=>.fail
def aab(i:Int)(n:Nat):Bool:=decide (0<=i/\i<n)
def apc(P:Program)(T:TypeId)(x i:SV):Option (Bool×SV):=
 match P.underlying T,x,i with
 |some (.array n E),.ref k [] m,.int _ i=>bif Nat.beq T m&&aa7 P E then some (aab i n,.eref k i.toNat E)else none
 |_,_,_=>none
def au2(o:Operand):Bool:=match o with|.const _=>true|_=>false
def apd(P:Program)(T:TypeId)(o:Bool)(x i:SV):Option (Bool×SV):=
 bif !o then none else
 match P.underlying T,x,i with
 |some (.array n E),.ref k path m,.int _ i=>(match arrF P n E with|some _=>(bif Nat.beq T m&&aa7 P E&&decide (0<=i)&&Nat.blt i.toNat n then some (true,.ref k (path++[i.toNat]) E)else none)|none=>none)
 |_,_,_=>none
def ahq(P:Program)(T:TypeId)(st:List BX)(x i:SV):Option (Bool×SV):=
 match P.underlying T,x,i with
 |some (.slice E),.arr k g m,.int _ i=>(match ad1 st k g E with|some xs=>(bif Nat.beq E m&&aa7 P E then some (aab i xs.length,.aref k g i.toNat E [] E)else none)|none=>none)
 |some (.slice E),.avw k g o m,.int _ i=>(match ad1 st k g E with|some xs=>(bif Nat.beq E m&&aa7 P E then some (aab i (xs.length-o),.aref k g (o+i.toNat) E [] E)else none)|none=>none)
 |_,_,_=>none
def ac4(P:Program)(T:TypeId)(st:List BX)(x i:SV):Ac:=
 match apc P T x i with
 |some r=>.val r.1 r.2
 |none=>
 match ahq P T st x i with
 |some r=>.val r.1 r.2
 |none=>
 match P.underlying T,an5 x,i with
 |some (.slice E),some xs,.int _ i=>bif an0 P E x&&!(Nat.beq (P.cellsOf E) 0)then .val (aab i xs.length) (.pto E (xs.getD i.toNat .bad))else .fail
 |_,_,_=>.fail
def ako(P:Program)(T:TypeId)(x i:SV):Ac:=
 match P.underlying T,x,i with
 |some .string,.str s,.int _ i=>.val (aab i s.length) (.int .u8 (s.getD i.toNat 0).toNat)
 |some (.array n E),.data m v,.int _ i=>bif Nat.beq T m&&aa7 P E&&Nat.beq (P.cellsOf T) (n*P.cellsOf E)then .val (aab i n) (ofPV P E (v.fld i.toNat))else .fail
 |_,_,_=>.fail
def bnd(x:Option SV)(dflt:Int):Option Int:=
 match x with
 |none=>some dflt
 |some (.int _ n)=>some n
 |some _=>none
def ak9(P:Program)(T:TypeId)(x:SV)(t o:Option SV):Option (Bool×SV):=
 match P.underlying T,x with
 |some (.array n E),.ref k [] m=>
  match bnd t 0,bnd o n with
  |some l,some h=>bif Nat.beq T m&&aa7 P E then some (decide (0<=l/\l<n/\l<=h/\h<=n),.asl k l.toNat (h.toNat-l.toNat) E)else none
  |_,_=>none
 |_,_=>none
def a4f(P:Program)(T:TypeId)(x:SV)(t o z:Option SV):Option (Bool×SV):=
 match P.underlying T,x,t,o,z with
 |some (.slice E),.acc k g m xs,some (.int _ l),none,none=>(bif Nat.beq E m&&!(Nat.beq (P.cellsOf E) 0)then some (decide (0<=l/\l<=xs.length),.acc k g E (xs.drop l.toNat))else none)
 |_,_,_,_,_=>none
def awb(P:Program)(t:Op)(m:Operand->SV)(st:List BX):Option (Bool×Bool×SV×List BX):=
 match t with
 |.slice T x none (some h) none=>
  match P.underlying T,m x,m h with
  |some (.slice E),.arr k g o,.int _ h=>(match ad1 st k g E with|some xs=>(bif Nat.beq E o&&!(Nat.beq (P.cellsOf E) 0)then some (decide (0<=h/\h<=xs.length),true,.arr k (g+1) E,st.set k (.arr E (g+1) (xs.take h.toNat)))else none)|none=>none)
  |_,_,_=>none
 |.slice T x (some l) none none=>
  match P.underlying T,m x,m l with
  |some (.slice E),.arr k g o,.int _ l=>(match ad1 st k g E with|some xs=>(bif Nat.beq E o&&!(Nat.beq (P.cellsOf E) 0)then some (decide (0<=l/\l<=xs.length),Nat.blt l.toNat xs.length,.avw k g l.toNat E,st)else none)|none=>none)
  |_,_,_=>none
 |_=>none
def afc(P:Program)(st:List BX)(T:TypeId)(x:SV):Ac:=
 match P.underlying T,x with
 |some (.slice E),.avw k g m o=>
  match ad1 st k g E with
  |some xs=>bif Nat.beq E o&&acg P E&&isOf P E (aa8 P 12 E)&&!(Nat.beq (P.cellsOf E) 0)then .upd (decide (m<xs.length)) (.tup []) (st.set k (.arr E g (xs.take m++List.replicate (xs.length-m) (toPV (aa8 P 12 E)))))else .fail
  |none=>.fail
 |_,_=>.fail
def ai2(P:Program)(T:TypeId)(x:SV)(o m t:Option SV):Ac:=
 match t with
 |some _=>.fail
 |none=>
  match ak9 P T x o m with
  |some r=>.val r.1 r.2
  |none=>
  match P.underlying T,x with
  |some .string,.str s=>
   match bnd o 0,bnd m s.length with
   |some l,some h=>.val (decide (0<=l/\l<=h/\h<=s.length)) (.str ((s.take h.toNat).drop l.toNat))
   |_,_=>.fail
  |some (.slice E),_=>
   match an5 x with
   |some xs=>
    match bnd o 0,bnd m xs.length with
    |some l,some h=>bif an0 P E x&&!(Nat.beq (P.cellsOf E) 0)then .val (decide (0<=l/\l<=h/\h<=xs.length)) (.slice E ((xs.take h.toNat).drop l.toNat))else .fail
    |_,_=>.fail
   |none=>.fail
  |_,_=>.fail
def aef(a b:PV):Bool:=
 match a,b with
 |.str x,.str y=>x==y
 |.int x,.int y=>x==y
 |.bool x,.bool y=>x==y
 |_,_=>false
def aqf:List PV->List PV->Bool
 |[],[]=>true
 |x::xs,y::ys=>bif aef x y then aqf xs ys else false
 |_,_=>false
def ahj(a b:PV):Bool:=
 match a,b with
 |.agg xs,.agg ys=>aqf xs ys
 |a,b=>aef a b
def PV.mget(es:List (PV×PV))(k:PV):Option PV:=(es.find? λe=>ahj k e.1).map (·.2)
def PV.mhas(es:List (PV×PV))(k:PV):Bool:=(PV.mget es k).isSome
def PV.mput:List (PV×PV)->PV->PV->List (PV×PV)
 |[],k,v=>[(k,v)]
 |e::r,k,v=>bif ahj k e.1 then(e.1,v)::r else e::PV.mput r k v
def PV.midx:List (PV×PV)->PV->Nat
 |[],_=>0
 |e::r,k=>bif ahj k e.1 then 0 else PV.midx r k+1
def PV.mset(es:List (PV×PV))(n:Nat)(v:PV):List (PV×PV):=match es[n]? with|some e=>es.set n (e.1,v)|none=>es
def ayt(P:Program)(K:TypeId):Bool:=
 match P.underlying K with
 |some .string|some (.int _)|some .bool=>true
 |_=>false
def keyT(P:Program)(K:TypeId):Bool:=
 match P.underlying K with
 |some .string|some (.int _)|some .bool=>true
 |some (.struct m)=>acs P K&&m.toList.all (λf=>ayt P f.type&&!(f.name== "_"))&&!(P.stoodInHeld K)
 |_=>false
def akq(P:Program)(E:TypeId)(es:List (PV×PV))(k:PV)(m:Bool):SV:=
 let v:=ofPV P E ((PV.mget es k).getD (toPV (aa8 P 12 E)))
 bif m then .tup [v,.bool (PV.mhas es k)]else v
def ac6(P:Program)(T:TypeId)(st:List BX)(m k:SV)(z:Bool):Ac:=
 match P.underlying T with
 |some (.map K E)=>
  bif keyT P K&&isOf P K k&&acg P E&&isOf P E (aa8 P 12 E)then
   match m with
   |.map t o es=>bif Nat.beq K t&&Nat.beq E o then .val true (akq P E es (toPV k) z)else .fail
   |.mref j=>match st[j]? with|some (.map t o es)=>bif Nat.beq K t&&Nat.beq E o then .val true (akq P E es (toPV k) z)else .fail|_=>.fail
   |_=>.fail
  else .fail
 |_=>.fail
def ab4(P:Program)(T:TypeId)(st:List BX)(m k v:SV):Ac:=
 match P.underlying T with
 |some (.map K E)=>
  bif keyT P K&&isOf P K k&&isOf P E v then
   match m with
   |.mref j=>match st[j]? with|some (.map K' E' es)=>bif Nat.beq K K'&&Nat.beq E E' then .upd true .undef (st.set j (.map K E (PV.mput es (toPV k) (toPV v))))else .fail|_=>.fail
   |_=>.fail
  else .fail
 |_=>.fail
def acn(P:Program)(T:TypeId)(st:List BX)(m k:SV):Ac:=
 match P.underlying T with
 |some (.map K E)=>
  bif keyT P K&&isOf P K k&&acg P E&&isOf P E (aa8 P 12 E)then
   match m with
   |.mref j=>match st[j]? with|some (.map K' E' es)=>bif Nat.beq K K'&&Nat.beq E E' then .upd true (.tup [.undef,.int .i64 ((PV.midx es (toPV k):Nat):Int)]) (st.set j (.map K E (PV.mput es (toPV k) ((PV.mget es (toPV k)).getD (toPV (aa8 P 12 E))))))else .fail|_=>.fail
   |_=>.fail
  else .fail
 |_=>.fail
def aca(P:Program)(T:TypeId)(st:List BX)(m s v:SV):Ac:=
 match P.underlying T with
 |some (.map K E)=>
  bif isOf P E v then
   match m,s with
   |.mref j,.int .i64 n=>match st[j]? with|some (.map K' E' es)=>bif Nat.beq K K'&&Nat.beq E E' then .upd (aab n es.length) .undef (st.set j (.map K E (PV.mset es n.toNat (toPV v))))else .fail|_=>.fail
   |_,_=>.fail
  else .fail
 |_=>.fail
def aku(P:Program)(T:TypeId)(st:List BX)(x:SV):Ac:=
 match P.underlying T,x with
 |some .string,.str s=>.upd true (.iref st.length) (st++[.iter s 0])
 |some (.map K E),.map o m es=>bif Nat.beq K o&&Nat.beq E m then .upd true (.mitr st.length) (st++[.mit K E none es])else .fail
 |_,_=>.fail
def aqt(P:Program)(st:List BX)(x:SV)(m:Bool):Ac:=
 match x,m with
 |.iref k,true=>
  match st[k]? with
  |some (.iter s p)=>.upd true (.nx (decide (p<s.length)) p (Utf8.decode ⟨s.toArray⟩ p).1) (st.set k (.iter s (bif decide (p<s.length)then p+(Utf8.decode ⟨s.toArray⟩ p).2 else p)))
  |_=>.fail
 |.mitr k,false=>
  match st[k]? with
  |some (.mit K E _ es)=>(match es with|[]=>.upd true (.tup [.bool false]) st|[x]=>.upd true (.tup [.bool true,ofPV P K x.1,ofPV P E x.2]) (st.set k (.mit K E (some x) []))|_=>.fail)
  |_=>.fail
 |_,_=>.fail
def am0(P:Program)(st:List BX)(x:SV):Ac:=
 match x with
 |.mitr k=>(match st[k]? with|some (.mit K E (some e) _)=>.val true (.tup [ofPV P K e.1,ofPV P E e.2])|_=>.fail)
 |_=>.fail
def aii(t:SV)(i:Nat):Ac:=
 match t with
 |.tup vs=>(match vs[i]? with|some v=>.val true v|none=>.fail)
 |.nx b p c=>(match i with|0=>.val true (.bool b)|1=>.val b (.int .i64 p)|2=>.val b (.int .i32 c)|_=>.fail)
 |_=>.fail
def blh(x:SV)(j:Nat):Bool:=match x with|.arr k _ _=>Nat.beq k j|_=>false
def acq(P:Program)(st:List BX)(T:TypeId)(x y:SV):Ac:=
 match y with
 |.lits E [s]=>
  match aoh s with
  |[j]=>
   match st[j]? with
   |some (.arr F g _)=>bif aah P E&&isOf P E (frzS st s)&&!(blh x j)then acy P (st.set j (.arr F (g+1) [])) T x (.lit E [toPV (frzS st s)])else .fail
   |_=>.fail
  |_=>.fail
 |y=>acy P st T x y
def aj3(c:Call)(m:Operand->SV)(P:Program)(st:List BX):Ac:=
 match c.callee with
 |.value (.func f)=>.call f (c.args.toList.map m)
 |.value x=>match m x with|.fn f n caps=>.call f (caps.take n++(c.args.toList.map m++caps.drop n))|_=>.fail
 |.builtin .len=>match c.args.toList,c.argTypes.toList with|[x],[T]=>au7 P T st (m x)|_,_=>.fail
 |.builtin .append=>match c.args.toList,c.argTypes.toList with|[x,y],[T,T']=>bif Nat.beq T T' then acq P st T (m x) (m y)else .fail|_,_=>.fail
 |.builtin .clear=>match c.args.toList,c.argTypes.toList with|[x],[T]=>afc P st T (m x)|_,_=>.fail
 |.builtin .min=>aed false (c.args.toList.map m)
 |.builtin .max=>aed true (c.args.toList.map m)
 |_=>.fail
def ae3(fn:Fn)(first cs:List SV):Ac:=
 match fn with
 |.func f=>.val true (.fn f first.length (first++cs))
 |_=>.fail
def aej(P:Program)(T:TypeId)(r:Option Operand)(st:List BX):Ac:=
 match P.underlying T,r with
 |some (.map K E),none=>.upd true (.mref st.length) (st++[.map K E []])
 |_,_=>.fail
def aic(P:Program)(T:TypeId)(st:List BX):Ac:=
 bif aj5 P T then .upd true (.bref st.length T) (st++[.bld T []])else bif acg P T then .upd true (.ref st.length [] T) (st++[.box T (aa8 P 12 T)])else .fail
def an3(P:Program):Nat->TypeId->SV->Bool
 |0,_,_=>false
 |n+1,T,s=>
  match P.underlying T,s with
  |some (.struct o),.agg m t=>
   Nat.beq T m&&(match o.toList,t with
   |[f],[x]=>Nat.beq f.offset 0&&Nat.beq (P.cellsOf f.type) (P.cellsOf T)&&aah P f.type&&an3 P n f.type x
   |[f,g],[.raw (.pointer none),.nils]=>!(aah P f.type)&&!(aah P g.type)&&Nat.beq f.offset 0&&Nat.beq g.offset 1&&Nat.beq (P.cellsOf f.type) 1&&Nat.beq (P.cellsOf g.type) 1&&Nat.beq (P.cellsOf T) 2
   |_,_=>false)
  |_,_=>false
def awz(P:Program)(T:TypeId)(s:SV)(st:List BX):Ac:=
 bif aj5 P T&&an3 P 3 T s then .upd true (.bref st.length T) (st++[.bld T []])else bif afl P T s then .upd true (.ref st.length [] T) (st++[.box T s])else .fail
def adr(P:Program)(T:TypeId)(m cap:SV)(st:List BX):Ac:=
 match P.underlying T,m,cap with
 |some (.slice E),.int .i64 0,.int .i64 c=>bif acg P E&&!(Nat.beq (P.cellsOf E) 0)&&Nat.ble (P.bytesOf E) 512 then .upd (decide (0<=c/\c<=accMax)) (.acc st.length 0 E []) (st++[.acc 0])else .fail
 |_,_,_=>.fail
def aiq(P:Program)(T:TypeId)(s:SV):Ac:=
 match P.underlying T with
 |none=>.fail
 |some (.interface _)=>.fail
 |some _=>.val true (.ifc T s)
def aqz(s:SV):Ac:=
 match s with
 |.ifc T x=>.pan (.ifc T x)
 |_=>.fail
def afg(P:Program)(T:TypeId)(m cap:SV)(st:List BX):Ac:=
 match P.underlying T,m,cap with
 |some (.slice E),.int .i64 n,.int .i64 c=>
  bif acg P E&&isOf P E (aa8 P 12 E)&&!(Nat.beq (P.cellsOf E) 0)&&Nat.ble (P.bytesOf E) 512 then
   .upd (decide (0<=n/\n<=c/\c<=accMax)) (.arr st.length 0 E) (st++[.arr E 0 (List.replicate n.toNat (toPV (aa8 P 12 E)))])else .fail
 |_,_,_=>.fail
def bab(n:Operand):Bool:=match n with|.const (.int .i64 0)=>true|_=>false
def ac(P:Program)(J:Op)(o ρt ρf:Operand->SV)(st:List BX):Ac:=
 match J with
 |.move x|.assign x=>.val true (o x)
 |.pick c x y=>
  match o c,ρt x,ρf y with
  |.bool b,.bool p,.bool q=>.val true (.bool (bif b then p else q))
  |_,_,_=>.fail
 |.alloc T=>aic P T st
 |.box T x=>awz P T (o x) st
 |.makeSlice T n c=>bif bab n then adr P T (o n) (o c) st else afg P T (o n) (o c) st
 |.build T ps=>aki P T (ps.toList.map λ(i,x)=>(i,o x))
 |.buildSlice T n ps=>ac2 P T n (ps.toList.map λ(i,x)=>(i,o x))
 |.load T a=>ahy P T st (o a)
 |.store T a x=>aep P T st (o a) (o x)
 |.nilCheck x=>match o x with|.ref k p T=>.val true (.ref k p T)|.pto T v=>.val true (.pto T v)|.fn f n cs=>.val true (.fn f n cs)|.bref k T=>.val true (.bref k T)|.aref k g i E p T=>(bif afz st k g then .val true (.aref k g i E p T)else .fail)|_=>.fail
 |.binOp b T x y _=>apg P b T y (o x) (o y)
 |.unOp u _ x=>unAc u (o x)
 |.convert s d x=>afp P st s d (o x)
 |.makeFunc fn first cs=>ae3 fn (first.toList.map o) (cs.toList.map o)
 |.makeMap T r=>aej P T r st
 |.slice T x G z H=>(match a4f P T (o x) (G.map o) (z.map o) (H.map o)with|some r=>.val r.1 r.2|none=>ai2 P T (o x) (G.map o) (z.map o) (H.map o))
 |.fieldAddr S x i=>ac3 P st S i (o x)
 |.field S x i=>akn P S i (o x)
 |.indexAddr T x i=>(match apd P T (au2 i) (o x) (o i)with|some r=>.val r.1 r.2|none=>ac4 P T st (o x) (o i))
 |.index T x i=>ako P T (o x) (o i)
 |.lookup T m k I=>ac6 P T st (o m) (o k) I
 |.insert T m k v|.mapUpdate T m k v=>ab4 P T st (o m) (o k) (o v)
 |.mapEntry T m k=>acn P T st (o m) (o k)
 |.entryStore T m s v=>aca P T st (o m) (o s) (o v)
 |.extract t i=>aii (o t) i
 |.range T x=>aku P T st (o x)
 |.next x b=>aqt P st (o x) b
 |.entry x=>am0 P st (o x)
 |.call c=>aj3 c o P st
 |.makeInterface T x=>aiq P T (o x)
 |.panic x=>aqz (o x)
 |_=>.fail
def canon(P:Program)(T:Option TypeId)(s:SV):Option SV:=
 match s with
 |.bool _|.int _ _|.str _|.slice _ _|.data _ _|.map _ _ _|.raw _|.pto _ _|.eif _=>some s
 |.acc _ _ E xs=>some (.slice E xs)
 |.lit E xs=>some (.slice E xs)
 |.sln E xs=>some (.slice E xs)
 |.nils=>match T with|some T=>(match P.underlying T with|some (.slice E)=>some (.slice E [])|_=>none)|none=>none
 |.agg m _=>bif isOf P m s then some (.data m (toPV s))else none
 |_=>none
mutual
def aqh(acc:Bool)(st:List BX):SV->List Nat
 |.ref k _ _=>[k]
 |.bref k _=>[k]
 |.mref k=>[k]
 |.arr k _ _=>[k]
 |.aref k _ _ _ _ _=>[k]
 |.eref k _ _=>[k]
 |.asl k _ _ _=>[k]
 |.acc k g _ _=>bif acc&&apb st k g then[k]else[]
 |.fn _ _ m=>ago acc st m
 |.agg _ o=>ago acc st o
 |.ifc _ s=>aqh acc st s
 |.pan s=>aqh acc st s
 |_=>[]
def ago(acc:Bool)(st:List BX):List SV->List Nat
 |[]=>[]
 |s::r=>aqh acc st s++ago acc st r
end
def bap(st:List BX)(k:Nat):List Nat:=match st[k]? with|some (.box _ s)=>aqh true st s|_=>[]
def af5(ks:List Nat):List Nat->List Nat
 |[]=>ks
 |k::r=>af5 (bif ks.any (Nat.beq k)then ks else ks++[k]) r
def a02(st:List BX):Nat->List Nat->List Nat
 |0,ks=>ks
 |n+1,ks=>a02 st n (af5 ks (ks.flatMap (bap st)))
def aau(st:List BX)(args:List SV):List Nat:=a02 st 4 (af5 [] (ago false st args))
def idx(k:Nat):List Nat->Nat
 |[]=>0
 |x::r=>bif Nat.beq k x then 0 else idx k r+1
def acr(ks:List Nat)(k:Nat):Option Nat:=bif ks.any (Nat.beq k)then some (idx k ks)else none
mutual
def renS(st:List BX)(m:Nat->Option Nat)(o:Nat->Nat):SV->Option SV
 |.acc k g E xs=>some (match m k with|some k'=>(bif apb st k g then .acc k' (o k) E xs else .slice E xs)|none=>.slice E xs)
 |.ref k p T=>match m k with|some k'=>some (.ref k' p T)|none=>none
 |.bref k T=>match m k with|some k'=>some (.bref k' T)|none=>none
 |.mref k=>match m k with|some k'=>some (.mref k')|none=>none
 |.arr k g E=>match m k with|some k'=>(bif afz st k g then some (.arr k' (o k) E)else none)|none=>none
 |.aref k g i E p T=>match m k with|some k'=>(bif afz st k g then some (.aref k' (o k) i E p T)else none)|none=>none
 |.eref k i E=>match m k with|some k'=>some (.eref k' i E)|none=>none
 |.asl k G n E=>match m k with|some k'=>some (.asl k' G n E)|none=>none
 |.fn f n t=>match renL st m o t with|some cs=>some (.fn f n cs)|none=>none
 |.agg T z=>match renL st m o z with|some gs=>some (.agg T gs)|none=>none
 |.lit E xs=>some (.slice E xs)
 |.sln E xs=>some (.slice E xs)
 |.ifc T s=>match renS st m o s with|some x=>some (.ifc T x)|none=>none
 |.pan s=>match renS st m o s with|some x=>some (.pan x)|none=>none
 |.iref _=>none
 |.mitr _=>none
 |.gd _ _ _=>none
 |.nx _ _ _=>none
 |.tup _=>none
 |.avw _ _ _ _=>none
 |.lits _ _=>none
 |s=>some s
def renL(st:List BX)(o:Nat->Option Nat)(m:Nat->Nat):List SV->Option (List SV)
 |[]=>some []
 |s::r=>match renS st o m s,renL st o m r with|some x,some q=>some (x::q)|_,_=>none
end
def aix(st:List BX)(o:Nat->Option Nat)(m:Nat->Nat)(k:Nat):BX->Option BX
 |.box T s=>match renS st o m s with|some x=>some (.box T x)|none=>none
 |.acc _=>some (.acc (m k))
 |.arr E _ xs=>some (.arr E (m k) xs)
 |.iter _ _=>none
 |.mit _ _ _ _=>none
 |b=>some b
def bbx(st:List BX)(o:Nat->Option Nat)(m:Nat->Nat):Nat->List BX->Option (List BX)
 |_,[]=>some []
 |k,b::r=>match aix st o m k b,bbx st o m (k+1) r with|some x,some q=>some (x::q)|_,_=>none
def ah4(st:List BX)(o:Nat->Option Nat)(m:Nat->Nat):List Nat->Option (List BX)
 |[]=>some []
 |k::ks=>
  match st[k]? with
  |some b=>match aix st o m k b,ah4 st o m ks with|some x,some q=>some (x::q)|_,_=>none
  |none=>none
def adc(n:Nat)(ks:List Nat)(j:Nat):Option Nat:=match ks[j]? with|some k=>some k|none=>some (n+(j-ks.length))
def ag6(st:List BX)(ks:List Nat)(sub:List BX)(j:Nat):Nat:=
 match ks[j]? with
 |some k=>(match st[k]? with|some (.acc g)=>g+1|some (.arr _ g _)=>(match sub[j]? with|some (.arr _ g' _)=>(bif Nat.beq g' 0 then g else g+1)|_=>g+1)|_=>0)
 |none=>0
def akm(st:List BX)(k:Nat):Nat:=match st[k]? with|some (.arr _ g _)=>(bif Nat.beq g 0 then 0 else 1)|_=>0
def ae9(st:List BX)(ks:List Nat)(o:List SV)(sub:List BX):Option (List SV×List BX):=
 match renL sub (adc st.length ks) (ag6 st ks sub) o,bbx sub (adc st.length ks) (ag6 st ks sub) 0 sub with
 |some m,some bs=>some (m,bs)
 |_,_=>none
def af0(m:List SV)(sub:List BX):Option (List SV):=match sub with|[]=>renL [] (λ_=>none) (λ_=>0) m|_=>none
def ab2:List Nat->List BX->List BX->List BX
 |k::ks,b::bs,st=>ab2 ks bs (st.set k b)
 |[],bs,st=>st++bs
 |_::_,[],st=>st
def adk:List SV->SV
 |[x]=>x
 |xs=>.tup xs
def fork{R:Type}(m:List SV)(k:Option R)(x:SV->Option R):Option R:=
 match m with
 |[.pan s]=>x s
 |_=>k
inductive LEx where
 |exit (i:Nat)
 |ret
 |pan
structure Cfg where
 P:Program
 own:Bool
 n:Nat
 np:Nat
 call:(R:Type)->Bool->FuncId->List SV->List BX->(List SV->List BX->Option R)->Option R
 lam:(R:Type)->Nat->Env->List BX->(LEx->Env->List BX->Option R)->Option R
 frz:FuncId->Bool:=λ_=>false
def asb(n:Nat)(d:Option Nat):Bool:=match d with|some d=>Nat.blt d n|none=>true
def argTs(m:Op):List TypeId:=match m with|.call c=>c.argTypes.toList|_=>[]
def dsts(ops:List Oper):List Nat:=ops.filterMap (·.dst)
def bi4{R:Type}(C:Cfg)(ops:Array Oper)(o:Oper)(I:List Oper)(e:Env)(st:List BX)(K:Env->List BX->Option R)(X:SV->List BX->Option R):Option R:=
 bif asb C.n o.dst then
  match o.guard with
  |none=>
   match awb C.P o.op (opd e []) st with
   |some (c,b,v,st')=>bif c then(bif b then K (put e o.dst v) st' else K (put e o.dst .undef) st')else none
   |none=>
   match ac C.P o.op (opd e []) (match o.op with|.pick (.tmp t) _ _=>opd e [(t,true)]|_=>opd e []) (match o.op with|.pick (.tmp t) _ _=>opd e [(t,false)]|_=>opd e []) st with
   |.fail=>none
   |.val c v=>bif c then K (put e o.dst v) st else none
   |.upd c v st'=>bif c then K (put e o.dst v) st' else none
   |.pan v=>X v st
   |.call f args=>
    bif C.frz f&&Nat.beq C.np 0 then
     match renL st (λ_=>none) (λ_=>0) (frzL st args)with
     |some J=>(match renL [] (acr []) (λ_=>0) J with|some G=>(C.call R true f G [] λH z=>(match af0 H z with|some rs'=>fork rs' (K (put (λ_=>.undef) o.dst (adk rs')) []) (λ_=>none)|none=>none))|none=>none)
     |none=>none
    else
    match renL st (acr (aau st args)) (λ_=>0) args,ah4 st (acr (aau st args)) (λ_=>0) (aau st args)with
    |some G,some sub=>C.call R true f G sub λH z=>match ae9 st (aau st args) H z with|some (rs',bs)=>fork rs' (K (put e o.dst (adk rs')) (ab2 (aau st args) bs st)) (λs=>X s (ab2 (aau st args) bs st))|none=>none
    |_,_=>none
  |some (j,m)=>
   match(ops[j]?).bind (·.dst)with
   |none=>none
   |some t=>
    bif (dsts (o::I)).any (Nat.beq t)then none else
    match gval e 8 t m with
    |none=>none
    |some b=>
     match ac C.P o.op (opd e [(t,m)]) (match o.op with|.pick (.tmp u) _ _=>opd e [(u,true),(t,m)]|_=>opd e []) (match o.op with|.pick (.tmp u) _ _=>opd e [(u,false),(t,m)]|_=>opd e []) st with
     |.val c v=>bif imp b c then K (put e o.dst (.gd t m v)) st else none
     |.call f args=>
          match aau st args,renL st (acr []) (λ_=>0) args with
          |[],some G=>C.call R b f G [] λH z=>match af0 H z with|some rs'=>fork rs' (K (put e o.dst (.gd t m (adk rs'))) st) (λ_=>none)|none=>none
          |_,_=>
           bif b then
            match renL st (acr (aau st args)) (λ_=>0) args,ah4 st (acr (aau st args)) (λ_=>0) (aau st args)with
            |some G,some sub=>C.call R true f G sub λH z=>match ae9 st (aau st args) H z with|some (rs',bs)=>fork rs' (K (put e o.dst (.gd t m (adk rs'))) (ab2 (aau st args) bs st)) (λs=>X s (ab2 (aau st args) bs st))|none=>none
            |_,_=>none
           else K (put e o.dst (.gd t m (aa8 C.P 12 o.type))) st
     |_=>none
 else none
def a3u{R:Type}(C:Cfg)(ops:Array Oper):List Oper->Env->List BX->(Env->List BX->Option R)->(SV->List BX->Option R)->Option R
 |[],e,st,K,_=>K e st
 |o::r,e,st,K,X=>bi4 C ops o r e st (λe st=>a3u C ops r e st K X) X
def sweep(e:Env):Env:=λt=>match e t with|.gd _ _ _=>.undef|v=>v
def opV{R:Type}(C:Cfg)(ops:Array Oper)(o:Oper)(e:Env)(st:List BX)(K X:SV->List BX->Option R):Option R:=
 match o.guard with
 |none=>
  match ac C.P o.op (opd e []) (match o.op with|.pick (.tmp t) _ _=>opd e [(t,true)]|_=>opd e []) (match o.op with|.pick (.tmp t) _ _=>opd e [(t,false)]|_=>opd e []) st with
  |.fail=>none
  |.val c v=>bif c then K v st else none
  |.upd c v st'=>bif c then K v st' else none
  |.pan _=>none
  |.call f args=>
   match renL st (acr (aau st args)) (λ_=>0) args,ah4 st (acr (aau st args)) (λ_=>0) (aau st args)with
   |some G,some sub=>C.call R true f G sub λH z=>match ae9 st (aau st args) H z with|some (rs',bs)=>fork rs' (K (adk rs') (ab2 (aau st args) bs st)) (λs=>X s (ab2 (aau st args) bs st))|none=>none
   |_,_=>none
 |some (j,m)=>
  match(ops[j]?).bind (·.dst)with
  |none=>none
  |some t=>
   match gval e 8 t m with
   |none=>none
   |some b=>
    match ac C.P o.op (opd e [(t,m)]) (match o.op with|.pick (.tmp u) _ _=>opd e [(u,true),(t,m)]|_=>opd e []) (match o.op with|.pick (.tmp u) _ _=>opd e [(u,false),(t,m)]|_=>opd e []) st with
    |.val c v=>bif imp b c then K (.gd t m v) st else none
    |.call f args=>
         match aau st args,renL st (acr []) (λ_=>0) args with
         |[],some G=>C.call R b f G [] λH z=>match af0 H z with|some rs'=>fork rs' (K (.gd t m (adk rs')) st) (λ_=>none)|none=>none
         |_,_=>
          bif b then
           match renL st (acr (aau st args)) (λ_=>0) args,ah4 st (acr (aau st args)) (λ_=>0) (aau st args)with
           |some G,some sub=>C.call R true f G sub λH z=>match ae9 st (aau st args) H z with|some (rs',bs)=>fork rs' (K (.gd t m (adk rs')) (ab2 (aau st args) bs st)) (λ_=>none)|none=>none
           |_,_=>none
          else K (.gd t m (aa8 C.P 12 o.type)) st
    |_=>none
def an4(m:Op):Bool:=match m with|.call _=>true|_=>false
def opW{R:Type}(C:Cfg)(ops:Array Oper)(o:Oper)(e:Env)(st:List BX)(K:SV->Option R):Option R:=
 match o.guard with
 |none=>
  match ac C.P o.op (opd e []) (match o.op with|.pick (.tmp t) _ _=>opd e [(t,true)]|_=>opd e []) (match o.op with|.pick (.tmp t) _ _=>opd e [(t,false)]|_=>opd e []) st with
  |.val c v=>bif c then K v else none
  |.call f args=>
   bif an4 o.op then
    match aau st args,renL st (acr []) (λ_=>0) args with
    |[],some as=>C.call R true f as [] λG z=>match af0 G z with|some rs'=>fork rs' (K (adk rs')) (λ_=>none)|none=>none
    |_,_=>none
   else none
  |_=>none
 |some (j,m)=>
  match(ops[j]?).bind (·.dst)with
  |none=>none
  |some t=>
   match gval e 8 t m with
   |none=>none
   |some b=>
    match ac C.P o.op (opd e [(t,m)]) (match o.op with|.pick (.tmp u) _ _=>opd e [(u,true),(t,m)]|_=>opd e []) (match o.op with|.pick (.tmp u) _ _=>opd e [(u,false),(t,m)]|_=>opd e []) st with
    |.val c v=>bif imp b c then K (.gd t m v)else none
    |.call f args=>
         bif an4 o.op then
          match aau st args,renL st (acr []) (λ_=>0) args with
          |[],some as=>C.call R b f as [] λG z=>match af0 G z with|some rs'=>fork rs' (K (.gd t m (adk rs'))) (λ_=>none)|none=>none
          |_,_=>none
         else none
    |_=>none
def ahd(acc:List Nat):List Edge->Nat
 |[]=>0
 |x::r=>bif Region.binds .any x then(2^x.on ||| acc.getD x.on 0) ||| ahd acc r else ahd acc r
def ancL:List Oper->List Nat->List Nat
 |[],acc=>acc
 |o::r,acc=>ancL r (acc++[ahd acc o.after.toList])
def auo:List Oper->Nat->Bool
 |[],_=>true
 |o::r,j=>o.after.toList.all (λx=>!(Region.binds .any x)||Nat.blt x.on j)&&auo r (j+1)
def a3o:List Nat->Bool
 |[]=>true
 |x::r=>!(r.any (Nat.beq x))&&a3o r
def ac0(t:Nat):List Oper->Nat->Option Nat
 |[],_=>none
 |o::r,i=>match o.dst with|some d=>(bif Nat.beq d t then some i else ac0 t r (i+1))|none=>ac0 t r (i+1)
def adp(m:Op):Bool:=match m with|.alloc _=>true|.box _ _=>true|.makeMap _ _=>true|_=>false
def extV(P:Program)(o:Op)(m:Operand->SV)(k:Nat):Option (SV×BX):=
 match o with
 |.alloc T=>bif aj5 P T then some (.bref k T,.bld T [])else bif acg P T then some (.ref k [] T,.box T (aa8 P 12 T))else none
 |.box T x=>bif aj5 P T&&an3 P 3 T (m x)then some (.bref k T,.bld T [])else bif afl P T (m x)then some (.ref k [] T,.box T (m x))else none
 |.makeMap T r=>match P.underlying T,r with|some (.map K E),none=>some (.mref k,.map K E [])|_,_=>none
 |_=>none
def baa(m:Op):Bool:=
 match m with
 |.alloc _=>true|.box _ _=>true|.makeMap _ _=>true|.makeSlice _ _ _=>true|.store _ _ _=>true|.insert _ _ _ _=>true|.mapUpdate _ _ _ _=>true|.mapEntry _ _ _=>true|.entryStore _ _ _ _=>true|.range _ _=>true|.next _ _=>true
 |.call c=>(match c.callee with|.builtin .append=>true|.builtin .clear=>true|_=>false)
 |_=>false
def bh1(m:Op):Bool:=match m with|.call c=>(match c.callee with|.value _=>true|_=>false)|_=>false
def bkh(m:Op):Bool:=match m with|.load _ _=>true|.lookup _ _ _ _=>true|.call _=>true|_=>false
structure DI where
 l:List Oper
 anc:List Nat
def DI.lt(d:DI)(i j:Nat):Bool:=Nat.blt i j&&Nat.testBit (d.anc.getD j 0) i
def DI.cmp(d:DI)(i j:Nat):Bool:=bif Nat.beq i j then true else bif Nat.blt i j then d.lt i j else d.lt j i
def amt(f:Nat->Oper->Bool):List Oper->Nat->Bool
 |[],_=>true
 |o::r,i=>f i o&&amt f r (i+1)
def bkg(m:Op):Bool:=match m with|.load _ _=>true|_=>false
def isNck(m:Op):Bool:=match m with|.nilCheck _=>true|_=>false
def DI.upd(d:DI)(j:Nat)(o:Oper):Bool:=baa o.op||(bh1 o.op&&amt (λi x=>!(baa x.op||bkh x.op||isNck x.op)||d.cmp i j||(bkg x.op&&x.guard.isNone&&o.guard.isNone)) d.l 0)
def DI.soft(d:DI)(o:Oper):Bool:=match o.op with|.store _ (.tmp t) _=>(match ac0 t d.l 0 with|some i=>(match d.l[i]? with|some x=>adp x.op|none=>false)|none=>false)|_=>false
def DI.isA(d:DI)(j:Nat):Bool:=amt (λi x=>!(d.upd i x)||d.cmp i j) d.l 0
def DI.isN(d:DI)(j:Nat):Bool:=amt (λi x=>!(d.upd i x&&!(adp x.op))||d.cmp i j) d.l 0
def DI.isB(d:DI)(j:Nat):Bool:=amt (λi x=>!(d.upd i x&&!(adp x.op||d.soft x))||d.cmp i j) d.l 0
def baw(m:Nat)(o:Oper)(e:Env):Bool:=match o.op with|.store _ a _=>(match opd e [] a with|.ref k _ _=>Nat.ble m k|_=>false)|_=>false
def DI.mask(d:DI)(j:Nat)(e:Env):Env:=λt=>match ac0 t d.l 0 with|some i=>(bif d.cmp i j then e t else .undef)|none=>e t
def gdOk(d:DI)(j:Nat)(o:Oper):Bool:=match o.guard with|some (g,_)=>d.lt g j|none=>true
def DI.last(d:DI)(j:Nat):Bool:=amt (λi _=>Nat.ble i j||d.lt j i) d.l 0
def aty:SV->Option Nat
 |.ref k _ _=>some k
 |.eref k _ _=>some k
 |.aref k _ _ _ _ _=>some k
 |_=>none
structure LM where
 j:Nat
 T:TypeId
 a:SV
 k:Nat
 v:SV
 u:Bool
 f:Nat->Bool
 q:Option SV
def rdAc(P:Program)(p:LM)(st:List BX):Ac:=match p.q with|none=>ahy P p.T st p.a|some key=>ac6 P p.T st p.a key false
def bbj(p:LM):Option Nat:=match p.q with|none=>aty p.a|some _=>(match p.a with|.mref k=>some k|_=>none)
def au3(m:Op):Bool:=match m with|.mapEntry _ _ _=>true|_=>false
def axv(m:List LM)(i k:Nat):Bool:=m.any λp=>p.u&&Nat.beq p.j i&&p.f k
def lmOf(d:DI)(z j:Nat)(o:Oper)(e:Env)(t:List LM):Option LM:=
 match o.guard,o.op with
 |none,.load T a=>
  match aty (opd e [] a)with
  |some k=>bif Nat.blt k z&&!(d.isA j)&&!(d.isB j)&&amt (λi x=>!(d.upd i x)||Nat.ble j i||d.cmp i j||axv t i k) d.l 0 then some ⟨j,T,opd e [] a,k,.undef,false,λ_=>false,none⟩else none
  |none=>none
 |none,.lookup T m x false=>
  match opd e [] m with
  |.mref k=>bif Nat.blt k z&&!(d.isA j)&&!(d.isB j)&&amt (λi x=>!(d.upd i x)||Nat.ble j i||d.cmp i j||axv t i k) d.l 0 then some ⟨j,T,.mref k,k,.undef,false,λ_=>false,some (opd e [] x)⟩else none
  |_=>none
 |_,_=>none
def a1g(a:Ac)(v:SV):Bool:=
 match a,v with
 |.val true (.arr k g E),.arr t o m=>Nat.beq k t&&Nat.beq g o&&Nat.beq E m
 |_,_=>false
def bkf(y:SV):Bool:=match y with|.lits _ _=>true|_=>false
def a3p(m:Op)(e:Env)(k:Nat):Bool:=
 match m with
 |.store _ a x=>(match aty (opd e [] a)with|some i=>!(Nat.beq i k)&&!((aoh (opd e [] x)).any (Nat.beq k))|none=>false)
 |.call c=>
  match c.callee,c.args.toList with
  |.builtin .append,[x,y]=>!(bkf (opd e [] y))&&(match opd e [] x with|.acc j _ _ _=>!(Nat.beq j k)|.arr j _ _=>!(Nat.beq j k)|.nils=>true|.lit _ _=>true|_=>false)
  |_,_=>false
 |_=>false
def akr(C:Cfg)(o:Oper)(e:Env)(st:List BX)(k:Nat):Bool:=
 match o.guard,ac C.P o.op (opd e []) (match o.op with|.pick (.tmp t) _ _=>opd e [(t,true)]|_=>opd e []) (match o.op with|.pick (.tmp t) _ _=>opd e [(t,false)]|_=>opd e []) st with
 |none,.call _ args=>!((aau st args).any (Nat.beq k))
 |none,.upd _ _ _=>a3p o.op e k
 |_,_=>false
def lmOk(C:Cfg)(d:DI)(j:Nat)(o:Oper)(e:Env)(st st':List BX)(m:List LM):Bool:=
 m.all λp=>p.u||d.cmp p.j j||adp o.op||d.soft o||akr C o e st p.k||a1g (rdAc C.P p st') p.v||(p.q.isSome&&au3 o.op)
def runD{R:Type}(C:Cfg)(d:DI)(ops:Array Oper)(m:Nat):List Oper->Nat->Env->List BX->List LM->(Env->List BX->Option R)->(SV->List BX->Option R)->Option R
 |[],_,e,st,_,K,_=>K e st
 |o::r,j,e,st,lk,K,X=>
  bif asb C.n o.dst&&gdOk d j o then
   bif d.upd j o then
    bif (bif adp o.op then d.isN j else d.isA j)&&Nat.ble m st.length&&(!(d.soft o)||baw m o (d.mask j e))then
     opV C ops o (d.mask j e) st (λv st'=>bif Nat.ble m st'.length&&lmOk C d j o (d.mask j e) st st' lk then runD C d ops m r (j+1) (put e o.dst v) st' (lk++[⟨j,0,.undef,0,.undef,true,λk=>akr C o (d.mask j e) st k,none⟩]) K X else none) (λs st'=>bif d.last j&&!(adp o.op)then X s st' else none)
    else none
   else
    match lmOf d m j o (d.mask j e) lk with
    |some p=>opW C ops o (d.mask j e) st λv=>runD C d ops m r (j+1) (put e o.dst v) st (lk++[{ p with v:=v }]) K X
    |none=>opW C ops o (d.mask j e) (bif d.isA j then st else st.take (bif d.isB j then m else 0)) λv=>runD C d ops m r (j+1) (put e o.dst v) st lk K X
  else none
def mkDI(ops:Array Oper):DI:={ l:=ops.toList,anc:=ancL ops.toList [] }
def axb(P:Program)(ops:Array Oper):Bool:=P.follows .mixedOrders&&auo ops.toList 0&&a3o (dsts ops.toList)
def runR{R:Type}(C:Cfg)(ops:Array Oper)(m:Bool)(e:Env)(st:List BX)(K:Env->List BX->Option R)(X:SV->List BX->Option R):Option R:=
 bif m then(bif axb C.P ops then runD C (mkDI ops) ops st.length ops.toList 0 e st [] K X else none)else a3u C ops ops.toList e st K X
structure Ks(R:Type) where
 norm:Env->List BX->Option R
 exit:Nat->Env->List BX->Option R
 ret:Env->List BX->Option R
 pan:SV->List BX->Option R
def aeg:Code->Nat
 |.region id _ _=>id+1
 |.seq a b=>match aeg a with|0=>aeg b|n=>n
 |.block _ c=>aeg c
 |.cond _ a b=>match aeg a with|0=>aeg b|n=>n
 |.loop c=>aeg c
 |.scope c=>aeg c
 |_=>0
def exec{R:Type}(C:Cfg):Code->Ks R->Env->List BX->Option R
 |.skip,K,e,st=>K.norm e st
 |.region _ ops m,K,e,st=>runR C ops m e st (λe st=>K.norm (sweep e) st) K.pan
 |.seq a b,K,e,st=>exec C a { norm:=exec C b K,exit:=K.exit,ret:=K.ret,pan:=K.pan } e st
 |.cond c x y,K,e,st=>
  match c with
  |.tmp t=>match e t with|.bool b=>bif b then exec C x K (e.set t (.bool true)) st else exec C y K (e.set t (.bool false)) st|_=>none
  |.const (.bool b)=>bif b then exec C x K e st else exec C y K e st
  |_=>none
 |.block id body,K,e,st=>exec C body { norm:=K.norm,exit:=λi e st=>bif Nat.beq i id then K.norm e st else K.exit i e st,ret:=K.ret,pan:=K.pan } e st
 |.loop body,K,e,st=>C.lam R (aeg body) e st λx e st=>match x with|.exit i=>K.exit i e st|.ret=>K.ret e st|.pan=>K.pan (e 0) st
 |.exit i,K,e,st=>K.exit i e st
 |.ret,K,e,st=>K.ret e st
 |.scope body,K,e,st=>exec C body K e st
 |.label _,K,e,st=>K.norm e st
 |_,_,_,_=>none
def bg2(P:Program)(e:Env)(st:List BX)(r:ResultVar):Option SV:=
 match r with
 |.tmp t=>match e t with|.gd _ _ _=>none|s=>some s
 |.cell t m=>match e t with
  |.ref k [] o=>bif Nat.beq m o&&(P.underlying m).isSome&&(aah P m||Nat.beq (P.cellsOf m) 1)then(match st[k]? with|some (.box _ s)=>some s|_=>none)else none
  |_=>none
def ayc(P:Program)(e:Env)(st:List BX):List ResultVar->Option (List SV)
 |[]=>some []
 |r::rs=>match bg2 P e st r,ayc P e st rs with|some x,some q=>some (x::q)|_,_=>none
def bi0(P:Program)(own:Bool)(st:List BX)(T:TypeId)(s:SV):Option SV:=
 match s with
 |.mref k=>match st[k]? with|some (.map K E es)=>some (.map K E es)|_=>none
 |.arr k g E=>bif own then some (.arr k g E)else(match ad1 st k g E with|some xs=>some (.slice E xs)|none=>none)
 |.pto _ _=>none
 |.ref k p m=>some (.ref k p m)
 |.bref k m=>some (.bref k m)
 |.fn f n o=>some (.fn f n o)
 |.agg m t=>bif own then(match canon P (some T) (.agg m t)with|some x=>some x|none=>some (.agg m t))else(match canon P (some T) (frzS st (.agg m t))with|some x=>some x|none=>some (frzS st (.agg m t)))
 |.nils=>bif own then some .nils else canon P (some T) .nils
 |.acc k g E xs=>bif own then some (.acc k g E xs)else canon P (some T) (.acc k g E xs)
 |s=>canon P (some T) s
def akx(P:Program)(own:Bool)(st:List BX):List TypeId->List SV->Option (List SV)
 |[],[]=>some []
 |T::ts,s::ss=>match bi0 P own st T s,akx P own st ts ss with|some x,some q=>some (x::q)|_,_=>none
 |_,_=>none
def frozen(own:Bool):List SV->List Nat
 |[]=>[]
 |.mref k::r=>k::frozen own r
 |.arr k _ _::r=>bif own then frozen own r else k::frozen own r
 |.agg T m::r=>bif own then frozen own r else aww m++frozen own r
 |_::r=>frozen own r
def at6(st:List BX):List SV->List Nat
 |[]=>[]
 |.acc k g _ _::r=>bif apb st k g then k::at6 st r else at6 st r
 |_::r=>at6 st r
def agh(own:Bool)(st:List BX)(np:Nat)(vs:List SV):List Nat:=a02 st 4 (af5 (List.range np) (ago false st vs++(bif own then at6 st vs else[])))
def aup(P:Program)(own:Bool)(e:Env)(st:List BX)(np:Nat)(z:List TypeId)(t:List ResultVar):Option (List SV×List BX):=
 match ayc P e st t with
 |none=>none
 |some m=>
  match akx P own st z m with
  |none=>none
  |some vs=>
   bif (frozen own m).all (λk=>!((agh own st np vs).any (Nat.beq k)))then
    match renL st (acr (agh own st np vs)) (akm st) vs,ah4 st (acr (agh own st np vs)) (akm st) (agh own st np vs)with
    |some o,some sub=>some (o,sub)
    |_,_=>none
   else none
def a9e(P:Program)(st:List BX)(np:Nat)(s:SV):Option (List SV×List BX):=
 match s with
 |.ifc T x=>
  match canon P (some T) x,ah4 st (acr (agh false st np [])) (akm st) (agh false st np [])with
  |some m,some sub=>some ([.pan (.ifc T m)],sub)
  |_,_=>none
 |_=>none
def as5(args:List SV):Env:=λt=>args.getD t .undef
def alg{R:Type}(C:Cfg)(fn:Func)(args:List SV)(st:List BX)(K:List SV->List BX->Option R):Option R:=
 match fn.body with
 |some c=>
  let fin:Env->List BX->Option R:=λe s=>match aup C.P C.own e s st.length fn.resultTypes.toList fn.results.toList with|some (rs,s')=>K rs s'|none=>none
  exec C c { norm:=fin,exit:=λ_ _ _=>none,ret:=fin,pan:=λs st'=>match a9e C.P st' st.length s with|some (rs,s')=>K rs s'|none=>none } (as5 args) st
 |none=>none
end Go.Ab
