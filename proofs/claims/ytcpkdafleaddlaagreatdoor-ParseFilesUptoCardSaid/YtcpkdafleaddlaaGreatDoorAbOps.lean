/- The evaluator over abstract values. Nothing is proved here. -/
import Derived.Test.YtcpkdafleaddlaaGreatDoorAbVal
set_option linter.unusedVariables false
set_option linter.unusedSimpArgs false
set_option linter.unnecessarySimpa false
namespace Go.Ab
open Go
abbrev Env:=Nat->SV
def Env.set (e:Env) (d:Nat) (v:SV):Env:=λt=>bif Nat.beq t d then v else e t
def put (e:Env) (d:Option Nat) (v:SV):Env:=
 match d with
 | some d=>e.set d v
 | none=>e
def af9 (e:Env):Nat->Nat->Bool->Nat->Bool->Bool
 | 0,_,_,_,_=>false
 | f+1,t1,w1,t,w=>bif Nat.beq t1 t&&(bif w1 then w else !w) then true else
  match e t1 with
  | .gd d m _=>af9 e f d m t w
  | _=>false
def aiq (e:Env):List (Nat×Bool)->Nat->Bool->Bool
 | [],_,_=>false
 | (t1,w1)::r,t,w=>bif af9 e 8 t1 w1 t w then true else aiq e r t w
def rd (e:Env) (gs:List (Nat×Bool)) (s:SV):SV:=
 match s with
 | .gd t w v=>bif aiq e gs t w then v else .undef
 | s=>s
def awc (v:Value):SV:=
 match v with
 | .bool b=>.bool b
 | .int k n=>.int k n
 | .string s=>.str s.data.toList
 | .slice none 0 0=>.nils
 | .nilIface=>.eif true
 | v=>.raw v
def opd (e:Env) (gs:List (Nat×Bool)) (x:Operand):SV:=
 match x with
 | .tmp t=>rd e gs (e t)
 | .const v=>awc v
 | .global _=>.undef
 | .func f=>.fn f 0 []
def bq (b w:Bool):Bool:=bif w then b else !b
def gval (e:Env):Nat->Nat->Bool->Option Bool
 | 0,_,_=>none
 | f+1,t,w=>
  match e t with
  | .bool b=>some (bq b w)
  | .gd d m (.bool b)=>
   match gval e f d m with
   | some c=>some (bif bq b w then c else false)
   | none=>none
  | _=>none
def imp (b c:Bool):Bool:=bif c then true else !b
def aau:Nat:=4611686018427387904
def aaf:Nat:=68719476736
def adv (P:Program):List Field->Nat->Option Nat
 | [],n=>some n
 | f::r,n=>bif Nat.beq f.offset n&&!(Nat.beq (P.cellsOf f.type) 0)&&(aak P f.type||Nat.beq (P.cellsOf f.type) 1) then adv P r (n+P.cellsOf f.type) else none
def ac6 (P:Program) (T:TypeId):Bool:=
 match P.underlying T with
 | some (.struct fs)=>
  match adv P fs.toList 0 with
  | some n=>Nat.beq n (P.cellsOf T)
  | none=>false
 | _=>false
mutual
def toPV:SV->PV
 | .bool b=>.bool b
 | .int _ n=>.int n
 | .str s=>.str s
 | .slice _ xs=>.slice xs
 | .data _ v=>v
 | .agg _ fs=>.agg (avp fs)
 | .map _ _ es=>.map es
 | .nils=>.slice []
 | .acc _ _ _ xs=>.slice xs
 | .lit _ xs=>.slice xs
 | .raw v=>.raw v
 | _=>.bad
def avp:List SV->List PV
 | []=>[]
 | s::r=>toPV s::avp r
end
mutual
def isOf (P:Program) (T:TypeId):SV->Bool
 | .bool _=>match P.underlying T with | some .bool=>true | _=>false
 | .int k _=>match P.underlying T with | some (.int k')=>decide (k=k') | _=>false
 | .str _=>match P.underlying T with | some .string=>true | _=>false
 | .slice E _=>match P.underlying T with | some (.slice E')=>Nat.beq E E' | _=>false
 | .data d _=>Nat.beq T d
 | .agg d fs=>Nat.beq T d&&ac6 P T&&(match P.underlying T with | some (.struct ds)=>a00 P ds.toList fs | _=>false)
 | .map K E _=>match P.underlying T with | some (.map K' E')=>Nat.beq K K'&&Nat.beq E E' | _=>false
 | .nils=>match P.underlying T with | some (.slice _)=>true | _=>false
 | .acc _ _ E _=>match P.underlying T with | some (.slice E')=>Nat.beq E E' | _=>false
 | .lit E _=>match P.underlying T with | some (.slice E')=>Nat.beq E E' | _=>false
 | .raw v=>rawT P T&&v.oneCell'
 | _=>false
def a00 (P:Program):List Field->List SV->Bool
 | [],[]=>true
 | f::r,s::q=>isOf P f.type s&&a00 P r q
 | _,_=>false
end
def ah0 (P:Program) (T:TypeId) (s:SV):Bool:=
 match s with
 | .data d _ | .agg d _=>Nat.beq T d&&aak P T
 | .undef | .tup _ | .gd _ _ _ | .nx _ _ _=>false
 | .raw v=>!aak P T&&Nat.beq (P.cellsOf T) 1&&v.oneCell'
 | _=>!aak P T&&Nat.beq (P.cellsOf T) 1
def aia (P:Program) (T:TypeId) (v:PV):List Field->Nat->List SV
 | [],_=>[]
 | f::r,i=>ofPV P f.type (v.fld i)::aia P T v r (i+1)
def ahg (P:Program) (TB:TypeId) (s:SV):Option (List SV):=
 bif ac6 P TB then
  match s with
  | .agg T fs=>bif Nat.beq TB T then some fs else none
  | .data T v=>bif Nat.beq TB T then (match P.underlying TB with | some (.struct ds)=>some (aia P T v ds.toList 0) | _=>none) else none
  | _=>none
 else none
def ah2 (P:Program):TypeId->SV->List Nat->Option SV
 | _,s,[]=>some s
 | TB,s,i::p=>
  match ahg P TB s,P.underlying TB with
  | some fs,some (.struct d)=>match fs[i]?,d[i]? with | some x,some f=>ah2 P f.type x p | _,_=>none
  | _,_=>none
def aie (P:Program):TypeId->SV->List Nat->SV->Option SV
 | _,_,[],x=>some x
 | TB,s,i::p,x=>
  match ahg P TB s,P.underlying TB with
  | some fs,some (.struct d)=>
   match fs[i]?,d[i]? with
   | some y,some f=>match aie P f.type y p x with | some z=>some (.agg TB (fs.set i z)) | none=>none
   | _,_=>none
  | _,_=>none
def abp (P:Program):Nat->TypeId->SV
 | 0,_=>.undef
 | n+1,T=>
  match P.underlying T with
  | some .bool=>.bool false
  | some (.int k)=>.int k 0
  | some .string=>.str []
  | some (.slice _)=>.nils
  | some (.struct fs)=>.agg T (fs.toList.map λf=>abp P n f.type)
  | some (.array k E)=>.data T (.agg (List.replicate k (toPV (abp P n E))))
  | some (.map K E)=>.map K E []
  | some (.pointer _)=>.raw (.pointer none)
  | some (.func _ _ _)=>.raw .nilFunc
  | some (.interface _)=>.raw .nilIface
  | _=>.undef
def zeroCells? (P:Program):Nat->TypeId->List Value->Bool
 | 0,_,_=>false
 | n+1,T,cs=>
  match P.underlying T,cs with
  | some .bool,[.bool b]=>!b
  | some (.int k),[.int d m]=>decide (k=d)&&decide (m=0)
  | some .string,[.string s]=>s.data.toList.isEmpty
  | some (.slice _),[.slice none 0 0]=>true
  | some (.struct fs),cs=>ac6 P T&&Nat.beq cs.length (P.cellsOf T)&&fs.toList.all λf=>zeroCells? P n f.type ((cs.drop f.offset).take (P.cellsOf f.type))
  | some (.array k E),cs=>Nat.beq cs.length (P.cellsOf T)&&Nat.beq (P.cellsOf T) (k*P.cellsOf E)&&(aak P E||Nat.beq (P.cellsOf E) 1)&&isOf P E (abp P n E)&&(List.range k).all λi=>zeroCells? P n E ((cs.drop (i*P.cellsOf E)).take (P.cellsOf E))
  | some (.map _ _),[.map none]=>true
  | some (.pointer _),[.pointer none]=>true
  | some (.func _ _ _),[.nilFunc]=>true
  | some (.interface _),[.nilIface]=>true
  | _,_=>false
def adc (P:Program) (T:TypeId):Bool:=
 match (P.info? T).map (·.zero) with
 | some (some z)=>zeroCells? P 12 T z.cells.toList&&Nat.beq z.cells.size (P.cellsOf T)&&(match z with | .agg _=>aak P T | _=>!aak P T)
 | _=>false
def af2 (d:BinOp) (k:IntKind) (x y:Int):Int:=
 match d with
 | .and=>k.wrap (BitVec.ofInt k.bits x &&& BitVec.ofInt k.bits y).toNat
 | .or=>k.wrap (BitVec.ofInt k.bits x ||| BitVec.ofInt k.bits y).toNat
 | .xor=>k.wrap (BitVec.ofInt k.bits x ^^^ BitVec.ofInt k.bits y).toNat
 | _=>k.wrap (BitVec.ofInt k.bits x &&& ~~~(BitVec.ofInt k.bits y)).toNat
inductive Ac where
 | fail
 | val (c:Bool) (v:SV)
 | upd (c:Bool) (v:SV) (st:List BX)
 | call (f:FuncId) (args:List SV)
 | pan (v:SV)
 deriving Inhabited
def a0z (d:BinOp) (k:IntKind) (x y:Int):Ac:=
 match d with
 | .add=>.val true (.int k (k.wrap (x+y)))
 | .sub=>.val true (.int k (k.wrap (x-y)))
 | .mul=>.val true (.int k (k.wrap (x*y)))
 | .quo=>.val (!(decide (y=0))) (.int k (k.wrap (x.tdiv y)))
 | .rem=>.val (!(decide (y=0))) (.int k (x.tmod y))
 | .and | .or | .xor | .andNot=>.val true (.int k (af2 d k x y))
 | .eql=>.val true (.bool (x==y))
 | .neq=>.val true (.bool (x != y))
 | .lss=>.val true (.bool (decide (x<y)))
 | .leq=>.val true (.bool (decide (x<=y)))
 | .gtr=>.val true (.bool (decide (x>y)))
 | .geq=>.val true (.bool (decide (x>=y)))
 | _=>.fail
def a2c (d:BinOp) (x y:Bq):Ac:=
 match d with
 | .add=>.val (decide (x.length+y.length<=aau)) (.str (x++y))
 | .eql=>.val true (.bool (x==y))
 | .neq=>.val true (.bool (!(x==y)))
 | .lss=>.val true (.bool (Op.bytesLess x y))
 | .leq=>.val true (.bool (Op.bytesLess x y||x==y))
 | .gtr=>.val true (.bool (!(Op.bytesLess x y||x==y)))
 | .geq=>.val true (.bool (!(Op.bytesLess x y)))
 | _=>.fail
def ap2 (d:BinOp) (x y:Bool):Ac:=
 match d with
 | .eql=>.val true (.bool (x==y))
 | .neq=>.val true (.bool (!(x==y)))
 | _=>.fail
def awz (P:Program) (T:TypeId):Bool:=match P.underlying T with | some .bool=>true | _=>false
def aro (P:Program) (T:TypeId) (x y:SV):Option Bool:=
 match P.underlying T,x,y with
 | some .bool,.bool a,.bool b=>some (a==b)
 | some (.int _),.int k a,.int d b=>bif decide (k=d) then some (a==b) else none
 | some .string,.str a,.str b=>some (a==b)
 | _,_,_=>none
def adj (P:Program):List Field->List SV->List SV->Option Bool
 | [],[],[]=>some true
 | f::ds,x::xs,y::ys=>match aro P f.type x y,adj P ds xs ys with | some b,some c=>some (bif b then c else false) | _,_=>none
 | _,_,_=>none
def aeq (P:Program) (m:BinOp) (T:TypeId) (x y:SV):Ac:=
 match P.underlying T,ahg P T x,ahg P T y with
 | some (.struct d),some xs,some o=>
  bif d.toList.all (λf=>!(f.name== "_"))&&!(P.stoodInHeld T)&&!(P.eqGuardType P.depth T) then
   match m,adj P d.toList xs o with
   | .eql,some b=>.val true (.bool b)
   | .neq,some b=>.val true (.bool (!b))
   | _,_=>.fail
  else .fail
 | _,_,_=>.fail
def av6 (P:Program) (d:BinOp) (T:TypeId) (x y:SV):Ac:=
 match x,y with
 | .int k a,.int m b=>
  match d with
  | .shl=>.val (decide (0<=b)) (.int k (k.wrap (a*2^(min b.toNat k.bits))))
  | .shr=>.val (decide (0<=b)) (.int k (a.fdiv (2^(min b.toNat k.bits))))
  | d=>bif decide (k=m) then a0z d k a b else .fail
 | .str a,.str b=>a2c d a b
 | .bool a,.bool b=>bif awz P T then ap2 d a b else .fail
 | x,y=>aeq P d T x y
def amz (P:Program) (T:TypeId):Bool:=match P.underlying T with | some (.interface _)=>true | _=>false
def a4o (y:Operand):Bool:=match y with | .const .nilIface=>true | _=>false
def ag4 (d:BinOp) (x:SV):Ac:=
 match d,x with
 | .eql,.eif b=>.val true (.bool b)
 | .neq,.eif b=>.val true (.bool (!b))
 | .eql,.ifc _ _=>.val true (.bool false)
 | .neq,.ifc _ _=>.val true (.bool true)
 | .eql,.raw .nilIface=>.val true (.bool true)
 | .neq,.raw .nilIface=>.val true (.bool false)
 | _,_=>.fail
def ank (P:Program) (d:BinOp) (T:TypeId) (y:Operand) (a b:SV):Ac:=bif a4o y&&amz P T then (match b with | .eif true=>ag4 d a | _=>.fail) else av6 P d T a b
def unAc (d:UnOp) (x:SV):Ac:=
 match d,x with
 | .not,.bool b=>.val true (.bool (!b))
 | .neg,.int k n=>.val true (.int k (k.wrap (0-n)))
 | .xor,.int k n=>.val true (.int k (af2 .xor k (if k.signed then -1 else k.max) n))
 | _,_=>.fail
def aqf (s:SV):Option (List PV):=
 match s with
 | .slice _ xs=>some xs
 | .acc _ _ _ xs=>some xs
 | .lit _ xs=>some xs
 | .nils=>some []
 | _=>none
def an0 (P:Program) (E:TypeId) (s:SV):Bool:=
 match s with
 | .slice d _ | .acc _ _ d _ | .lit d _=>Nat.beq E d
 | .nils=>true
 | _=>false
def a4n (P:Program) (E:TypeId):Bool:=match P.underlying E with | some (.int .u8)=>true | _=>false
def aat (v:PV):UInt8:=UInt8.ofNat v.asInt.toNat
def adx (P:Program) (d E:TypeId):Bool:=(match P.underlying d with | some (.slice E')=>Nat.beq E' E | _=>false)&&a4n P E&&Nat.beq (P.cellsOf E) 1
def anr (P:Program) (d m:TypeId) (x:SV):Ac:=
 bif (P.underlying d).isSome then
  match P.underlying m,x with
  | some (.int k),.int _ n=>.val true (.int k (k.wrap n))
  | some .string,.str s=>.val true (.str s)
  | some .string,.slice E xs=>bif adx P d E then .val true (.str (xs.map aat)) else .fail
  | some .string,.acc _ _ E xs=>bif adx P d E then .val true (.str (xs.map aat)) else .fail
  | some .string,.lit E xs=>bif adx P d E then .val true (.str (xs.map aat)) else .fail
  | some .string,.int _ n=>.val true (.str (Utf8.encode n).data.toList)
  | _,_=>.fail
 else .fail
def att (P:Program) (TB E:TypeId):Bool:=match P.underlying TB with | some (.array n E')=>Nat.beq E E'&&Nat.beq (P.cellsOf TB) (n*P.cellsOf E) | _=>false
def afd (P:Program) (st:List BX) (m d:TypeId) (x:SV):Ac:=
 match x with
 | .asl k z n E=>
  match P.underlying d,st[k]? with
  | some .string,some (.box TB (.data o v))=>bif Nat.beq TB o&&att P TB E&&adx P m E then .val true (.str (((v.parts.drop z).take n).map aat)) else .fail
  | _,_=>.fail
 | x=>anr P m d x
def aj4 (st:List BX) (k g:Nat) (E:TypeId):Option (List PV):=match st[k]? with | some (.arr E' g' xs)=>(bif Nat.beq g g'&&Nat.beq E E' then some xs else none) | _=>none
def ar2 (P:Program) (T:TypeId) (st:List BX) (x:SV):Ac:=
 match P.underlying T,x with
 | some .string,.str s=>.val true (.int .i64 s.length)
 | some (.slice _),.slice _ xs=>.val true (.int .i64 xs.length)
 | some (.slice _),.acc _ _ _ xs=>.val true (.int .i64 xs.length)
 | some (.slice _),.lit _ xs=>.val true (.int .i64 xs.length)
 | some (.slice _),.nils=>.val true (.int .i64 0)
 | some (.slice _),.arr k g E=>match aj4 st k g E with | some xs=>.val true (.int .i64 xs.length) | none=>.fail
 | some (.map _ _),.map _ _ es=>.val true (.int .i64 es.length)
 | some (.map _ _),.mref k=>match st[k]? with | some (.map _ _ es)=>.val true (.int .i64 es.length) | _=>.fail
 | _,_=>.fail
def ags (st:List BX) (k g:Nat):Bool:=match st[k]? with | some (.arr _ g' _)=>Nat.beq g g' | _=>false
def apf (st:List BX) (k g:Nat):Bool:=match st[k]? with | some (.acc g')=>Nat.beq g g' | _=>false
def ads (P:Program) (st:List BX) (T:TypeId) (x y:SV):Ac:=
 match P.underlying T,aqf y with
 | some (.slice E),some d=>
  bif an0 P E y&&Nat.ble (P.bytesOf E) 512&&!(Nat.beq (P.bytesOf E) 0)&&!(Nat.beq (P.cellsOf E) 0)&&adc P E then
   match x with
   | .nils=>.upd (decide (d.length<=aaf)) (.acc st.length 0 E d) (st++[.acc 0])
   | .acc k g m xs=>bif Nat.beq E m&&apf st k g then
         .upd (decide (xs.length+d.length<=aaf)) (.acc k (g+1) E (xs++d)) (st.set k (.acc (g+1))) else .fail
   | .lit m xs=>bif Nat.beq E m then .upd (decide (xs.length+d.length<=aaf)) (.slice E (xs++d)) st else .fail
   | .arr k g m=>bif Nat.beq E m then (match aj4 st k g E with | some xs=>.upd (decide (xs.length+d.length<=aaf)) (.arr k (g+1) E) (st.set k (.arr E (g+1) (xs++d))) | none=>.fail) else .fail
   | _=>.fail
  else .fail
 | _,_=>.fail
def ait (d:Bool) (a:Int):List SV->Option Int
 | []=>some a
 | .int _ b::r=>ait d (bif d then (if b>a then b else a) else (if b<a then b else a)) r
 | _=>none
def ad8 (d:Bool):List SV->Ac
 | .int k a::r=>match ait d a r with | some n=>.val true (.int k n) | none=>.fail
 | _=>.fail
def abf (P:Program) (E:TypeId):Bool:=!(Nat.beq (P.cellsOf E) 0)&&(P.underlying E).isSome&&(aak P E||Nat.beq (P.cellsOf E) 1)
def aet (fs:List SV):List (Nat×SV)->Option (List SV)
 | []=>some fs
 | (i,v)::r=>bif Nat.blt i fs.length then aet (fs.set i v) r else none
def am3 (P:Program) (d:Array Field) (p:Nat×SV):Bool:=match d[p.1]? with | some f=>ah0 P f.type p.2 | none=>false
def afg (P:Program) (n:Nat) (E:TypeId) (p:Nat×SV):Bool:=Nat.blt p.1 n&&isOf P E p.2
def adq (fs:List PV):List (Nat×SV)->List PV
 | []=>fs
 | (i,v)::r=>adq (fs.set i (toPV v)) r
def ajm (P:Program) (T:TypeId) (parts:List (Nat×SV)):Ac:=
 match P.underlying T,abp P 12 T with
 | some (.array n E),.data _ (.agg zs)=>bif adc P T&&abf P E&&Nat.beq (P.cellsOf T) (n*P.cellsOf E)&&parts.all (afg P n E) then .val true (.data T (.agg (adq zs parts))) else .fail
 | some (.struct d),.agg _ zs=>
  bif adc P T&&ac6 P T&&parts.all (am3 P d) then
   match aet zs parts with
   | some fs=>.val true (.agg T fs)
   | none=>.fail
  else .fail
 | _,_=>.fail
def acs (P:Program) (T:TypeId) (n:Nat) (parts:List (Nat×SV)):Ac:=
 match P.underlying T with
 | some (.slice E)=>
  bif adc P E&&isOf P E (abp P 12 E)&&!(Nat.beq (P.cellsOf E) 0)&&Nat.ble (n*P.cellsOf E) 4096&&parts.all (afg P n E) then
   .val true (.lit E (adq (List.replicate n (toPV (abp P 12 E))) parts)) else .fail
 | _=>.fail
def adb (P:Program) (T:TypeId) (st:List BX) (a:SV):Ac:=
 match a with
 | .pto d v=>bif Nat.beq T d&&(P.underlying T).isSome then .val true (ofPV P T v) else .fail
 | .ref k path d=>
  bif Nat.beq T d&&(P.underlying T).isSome then
   match st[k]? with
   | some (.box TB s)=>bif aak P T||Nat.beq (P.cellsOf T) 1 then (match ah2 P TB s path with | some x=>.val true x | none=>.fail) else .fail
   | _=>.fail
  else .fail
 | .eref k i E=>
  bif Nat.beq T E&&abf P E then
   match st[k]? with
   | some (.box TB (.data m v))=>bif Nat.beq TB m&&att P TB E then .val true (ofPV P E (v.fld i)) else .fail
   | _=>.fail
  else .fail
 | .aref k g i E path d=>
  bif Nat.beq T d&&abf P E&&abf P T then
   match aj4 st k g E with
   | some xs=>(match ah2 P E (ofPV P E (xs.getD i .bad)) path with | some x=>.val true x | none=>.fail)
   | none=>.fail
  else .fail
 | _=>.fail
def aei (P:Program) (T:TypeId) (st:List BX) (a x:SV):Ac:=
 match a with
 | .ref k path d=>
  bif Nat.beq T d&&ah0 P T x&&!(Nat.beq (P.cellsOf T) 0) then
   match st[k]? with
   | some (.box TB s)=>match aie P TB s path x with | some s'=>.upd true .undef (st.set k (.box TB s')) | none=>.fail
   | _=>.fail
  else .fail
 | .eref k i E=>
  bif Nat.beq T E&&isOf P E x&&abf P E then
   match st[k]? with
   | some (.box TB (.data m v))=>bif Nat.beq TB m&&att P TB E then .upd true .undef (st.set k (.box TB (.data TB (.agg (v.parts.set i (toPV x)))))) else .fail
   | _=>.fail
  else .fail
 | .aref k g i E path d=>
  bif Nat.beq T d&&abf P E&&ah0 P T x&&!(Nat.beq (P.cellsOf T) 0) then
   match aj4 st k g E with
   | some xs=>
    match aie P E (ofPV P E (xs.getD i .bad)) path x with
    | some y=>bif isOf P E y then .upd true .undef (st.set k (.arr E g (xs.set i (toPV y)))) else .fail
    | none=>.fail
   | none=>.fail
  else .fail
 | _=>.fail
def bbh (P:Program):Nat->TypeId->Bool
 | 0,_=>false
 | n+1,T=>
  match P.underlying T with
  | some (.struct fs)=>
   match fs.toList with
   | [f]=>Nat.beq f.offset 0&&bbh P n f.type
   | [f,g]=>(match P.underlying f.type with | some (.pointer e)=>Nat.beq e T | _=>false)&&(match P.underlying g.type with | some (.slice e)=>a4n P e&&Nat.beq (P.cellsOf e) 1 | _=>false)&&Nat.beq f.offset 0&&Nat.beq g.offset 1
   | _=>false
  | _=>false
def av7 (P:Program) (T:TypeId):Bool:=
 match (P.info? T).bind (λi=>i.zero) with
 | some (Value.agg cs)=>(match cs.toList with | [.pointer none,.slice none 0 0]=>true | _=>false)
 | _=>false
def ajh (P:Program) (T:TypeId):Bool:=bbh P 3 T&&av7 P T
def acu (P:Program) (st:List BX) (S:TypeId) (i:Nat) (a:SV):Ac:=
 match P.underlying S with
 | some (.struct fs)=>
  match fs[i]? with
  | some f=>
   bif Nat.beq (P.cellsOf f.type) 0 then .fail else
   match a with
   | .pto T v=>bif Nat.beq S T then .val true (.pto f.type (v.fld i)) else .fail
   | .ref k path T=>bif Nat.beq S T then .val true (.ref k (path++[i]) f.type) else .fail
   | .bref k T=>bif Nat.beq S T&&Nat.beq f.offset 0 then .val true (.bref k f.type) else .fail
   | .aref k g j E path T=>bif Nat.beq S T&&ags st k g then .val true (.aref k g j E (path++[i]) f.type) else .fail
   | _=>.fail
  | none=>.fail
 | _=>.fail
def ajp (P:Program) (S:TypeId) (i:Nat) (a:SV):Ac:=
 match P.underlying S with
 | some (.struct fs)=>
  match fs[i]? with
  | some f=>
   bif ac6 P S&&abf P f.type then
    match a with
    | .data T v=>bif Nat.beq S T then .val true (ofPV P f.type (v.fld i)) else .fail
    | .agg T d=>bif Nat.beq S T then (match d[i]? with | some v=>.val true v | none=>.fail) else .fail
    | _=>.fail
   else .fail
  | none=>.fail
 | _=>.fail
def aaa (i:Int) (n:Nat):Bool:=decide (0<=i/\i<n)
def ani (P:Program) (T:TypeId) (x i:SV):Option (Bool×SV):=
 match P.underlying T,x,i with
 | some (.array n E),.ref k [] d,.int _ i=>bif Nat.beq T d&&abf P E then some (aaa i n,.eref k i.toNat E) else none
 | _,_,_=>none
def ag7 (P:Program) (T:TypeId) (st:List BX) (x i:SV):Option (Bool×SV):=
 match P.underlying T,x,i with
 | some (.slice E),.arr k g d,.int _ i=>(match aj4 st k g E with | some xs=>(bif Nat.beq E d&&abf P E then some (aaa i xs.length,.aref k g i.toNat E [] E) else none) | none=>none)
 | _,_,_=>none
def acv (P:Program) (T:TypeId) (st:List BX) (x i:SV):Ac:=
 match ani P T x i with
 | some r=>.val r.1 r.2
 | none=>
 match ag7 P T st x i with
 | some r=>.val r.1 r.2
 | none=>
 match P.underlying T,aqf x,i with
 | some (.slice E),some xs,.int _ i=>bif an0 P E x&&!(Nat.beq (P.cellsOf E) 0) then .val (aaa i xs.length) (.pto E (xs.getD i.toNat .bad)) else .fail
 | _,_,_=>.fail
def ajq (P:Program) (T:TypeId) (x i:SV):Ac:=
 match P.underlying T,x,i with
 | some .string,.str s,.int _ i=>.val (aaa i s.length) (.int .u8 (s.getD i.toNat 0).toNat)
 | some (.array n E),.data d v,.int _ i=>bif Nat.beq T d&&abf P E&&Nat.beq (P.cellsOf T) (n*P.cellsOf E) then .val (aaa i n) (ofPV P E (v.fld i.toNat)) else .fail
 | _,_,_=>.fail
def bnd (x:Option SV) (dflt:Int):Option Int:=
 match x with
 | none=>some dflt
 | some (.int _ n)=>some n
 | some _=>none
def amu (P:Program) (T:TypeId) (x:SV) (o m:Option SV):Option (Bool×SV):=
 match P.underlying T,x with
 | some (.array n E),.ref k [] d=>
  match bnd o 0,bnd m n with
  | some l,some h=>bif Nat.beq T d&&abf P E then some (decide (0<=l/\l<n/\l<=h/\h<=n),.asl k l.toNat (h.toNat-l.toNat) E) else none
  | _,_=>none
 | _,_=>none
def ajy (P:Program) (T:TypeId) (x:SV) (m d o:Option SV):Ac:=
 match o with
 | some _=>.fail
 | none=>
  match amu P T x m d with
  | some r=>.val r.1 r.2
  | none=>
  match P.underlying T,x with
  | some .string,.str s=>
   match bnd m 0,bnd d s.length with
   | some l,some h=>.val (decide (0<=l/\l<=h/\h<=s.length)) (.str ((s.take h.toNat).drop l.toNat))
   | _,_=>.fail
  | some (.slice E),_=>
   match aqf x with
   | some xs=>
    match bnd m 0,bnd d xs.length with
    | some l,some h=>bif an0 P E x&&!(Nat.beq (P.cellsOf E) 0) then .val (decide (0<=l/\l<=h/\h<=xs.length)) (.slice E ((xs.take h.toNat).drop l.toNat)) else .fail
    | _,_=>.fail
   | none=>.fail
  | _,_=>.fail
def alg (a b:PV):Bool:=
 match a,b with
 | .str x,.str y=>x==y
 | .int x,.int y=>x==y
 | .bool x,.bool y=>x==y
 | _,_=>false
def PV.mget (es:List (PV×PV)) (k:PV):Option PV:=(es.find? λe=>alg k e.1).map (·.2)
def PV.mhas (es:List (PV×PV)) (k:PV):Bool:=(PV.mget es k).isSome
def PV.mput:List (PV×PV)->PV->PV->List (PV×PV)
 | [],k,v=>[(k,v)]
 | e::r,k,v=>bif alg k e.1 then (e.1,v)::r else e::PV.mput r k v
def keyT (P:Program) (K:TypeId):Bool:=
 match P.underlying K with
 | some .string | some (.int _) | some .bool=>true
 | _=>false
def alj (P:Program) (E:TypeId) (es:List (PV×PV)) (k:PV) (ok:Bool):SV:=
 let v:=ofPV P E ((PV.mget es k).getD (toPV (abp P 12 E)))
 bif ok then .tup [v,.bool (PV.mhas es k)] else v
def afi (P:Program) (T:TypeId) (st:List BX) (m k:SV) (ok:Bool):Ac:=
 match P.underlying T with
 | some (.map K E)=>
  bif keyT P K&&isOf P K k&&adc P E&&isOf P E (abp P 12 E) then
   match m with
   | .map o d es=>bif Nat.beq K o&&Nat.beq E d then .val true (alj P E es (toPV k) ok) else .fail
   | .mref j=>match st[j]? with | some (.map o d es)=>bif Nat.beq K o&&Nat.beq E d then .val true (alj P E es (toPV k) ok) else .fail | _=>.fail
   | _=>.fail
  else .fail
 | _=>.fail
def abv (P:Program) (T:TypeId) (st:List BX) (m k v:SV):Ac:=
 match P.underlying T with
 | some (.map K E)=>
  bif keyT P K&&isOf P K k&&isOf P E v then
   match m with
   | .mref j=>match st[j]? with | some (.map K' E' es)=>bif Nat.beq K K'&&Nat.beq E E' then .upd true .undef (st.set j (.map K E (PV.mput es (toPV k) (toPV v)))) else .fail | _=>.fail
   | _=>.fail
  else .fail
 | _=>.fail
def ajs (P:Program) (T:TypeId) (st:List BX) (x:SV):Ac:=
 match P.underlying T,x with
 | some .string,.str s=>.upd true (.iref st.length) (st++[.iter s 0])
 | _,_=>.fail
def aol (st:List BX) (x:SV) (d:Bool):Ac:=
 match x,d with
 | .iref k,true=>
  match st[k]? with
  | some (.iter s p)=>.upd true (.nx (decide (p<s.length)) p (Utf8.decode ⟨s.toArray⟩ p).1) (st.set k (.iter s (bif decide (p<s.length) then p+(Utf8.decode ⟨s.toArray⟩ p).2 else p)))
  | _=>.fail
 | _,_=>.fail
def ahy (t:SV) (i:Nat):Ac:=
 match t with
 | .tup d=>(match d[i]? with | some v=>.val true v | none=>.fail)
 | .nx b p c=>(match i with | 0=>.val true (.bool b) | 1=>.val b (.int .i64 p) | 2=>.val b (.int .i32 c) | _=>.fail)
 | _=>.fail
def aj6 (c:Call) (d:Operand->SV) (P:Program) (st:List BX):Ac:=
 match c.callee with
 | .value (.func f)=>.call f (c.args.toList.map d)
 | .value x=>match d x with | .fn f n caps=>.call f (caps.take n++(c.args.toList.map d++caps.drop n)) | _=>.fail
 | .builtin .len=>match c.args.toList,c.argTypes.toList with | [x],[T]=>ar2 P T st (d x) | _,_=>.fail
 | .builtin .append=>match c.args.toList,c.argTypes.toList with | [x,y],[T,T']=>bif Nat.beq T T' then ads P st T (d x) (d y) else .fail | _,_=>.fail
 | .builtin .min=>ad8 false (c.args.toList.map d)
 | .builtin .max=>ad8 true (c.args.toList.map d)
 | _=>.fail
def aex (fn:Fn) (first cs:List SV):Ac:=
 match fn with
 | .func f=>.val true (.fn f first.length (first++cs))
 | _=>.fail
def aea (P:Program) (T:TypeId) (r:Option Operand) (st:List BX):Ac:=
 match P.underlying T,r with
 | some (.map K E),none=>.upd true (.mref st.length) (st++[.map K E []])
 | _,_=>.fail
def ahn (P:Program) (T:TypeId) (st:List BX):Ac:=
 bif ajh P T then .upd true (.bref st.length T) (st++[.bld T []]) else bif adc P T then .upd true (.ref st.length [] T) (st++[.box T (abp P 12 T)]) else .fail
def al5 (P:Program):Nat->TypeId->SV->Bool
 | 0,_,_=>false
 | n+1,T,s=>
  match P.underlying T,s with
  | some (.struct m),.agg d fs=>
   Nat.beq T d&&(match m.toList,fs with
   | [f],[x]=>Nat.beq f.offset 0&&Nat.beq (P.cellsOf f.type) (P.cellsOf T)&&aak P f.type&&al5 P n f.type x
   | [f,g],[.raw (.pointer none),.nils]=>!(aak P f.type)&&!(aak P g.type)&&Nat.beq f.offset 0&&Nat.beq g.offset 1&&Nat.beq (P.cellsOf f.type) 1&&Nat.beq (P.cellsOf g.type) 1&&Nat.beq (P.cellsOf T) 2
   | _,_=>false)
  | _,_=>false
def aty (P:Program) (T:TypeId) (s:SV) (st:List BX):Ac:=
 bif ajh P T&&al5 P 3 T s then .upd true (.bref st.length T) (st++[.bld T []]) else bif ah0 P T s then .upd true (.ref st.length [] T) (st++[.box T s]) else .fail
def adm (P:Program) (T:TypeId) (len cap:SV) (st:List BX):Ac:=
 match P.underlying T,len,cap with
 | some (.slice E),.int .i64 0,.int .i64 c=>bif adc P E&&!(Nat.beq (P.cellsOf E) 0)&&Nat.ble (P.bytesOf E) 512 then .upd (decide (0<=c/\c<=aaf)) (.acc st.length 0 E []) (st++[.acc 0]) else .fail
 | _,_,_=>.fail
def ah7 (P:Program) (T:TypeId) (s:SV):Ac:=
 match P.underlying T with
 | none=>.fail
 | some (.interface _)=>.fail
 | some _=>.val true (.ifc T s)
def aor (s:SV):Ac:=
 match s with
 | .ifc T x=>.pan (.ifc T x)
 | _=>.fail
def ae4 (P:Program) (T:TypeId) (len cap:SV) (st:List BX):Ac:=
 match P.underlying T,len,cap with
 | some (.slice E),.int .i64 n,.int .i64 c=>
  bif adc P E&&isOf P E (abp P 12 E)&&!(Nat.beq (P.cellsOf E) 0)&&Nat.ble (P.bytesOf E) 512 then
   .upd (decide (0<=n/\n<=c/\c<=aaf)) (.arr st.length 0 E) (st++[.arr E 0 (List.replicate n.toNat (toPV (abp P 12 E)))]) else .fail
 | _,_,_=>.fail
def a4q (n:Operand):Bool:=match n with | .const (.int .i64 0)=>true | _=>false
def ac (P:Program) (U:Op) (o ρt ρf:Operand->SV) (st:List BX):Ac:=
 match U with
 | .move x | .assign x=>.val true (o x)
 | .pick c x y=>
  match o c,ρt x,ρf y with
  | .bool b,.bool p,.bool q=>.val true (.bool (bif b then p else q))
  | _,_,_=>.fail
 | .alloc T=>ahn P T st
 | .box T x=>aty P T (o x) st
 | .makeSlice T n c=>bif a4q n then adm P T (o n) (o c) st else ae4 P T (o n) (o c) st
 | .build T z=>ajm P T (z.toList.map λ(i,x)=>(i,o x))
 | .buildSlice T n z=>acs P T n (z.toList.map λ(i,x)=>(i,o x))
 | .load T a=>adb P T st (o a)
 | .store T a x=>aei P T st (o a) (o x)
 | .nilCheck x=>match o x with | .ref k p T=>.val true (.ref k p T) | .pto T v=>.val true (.pto T v) | .fn f n cs=>.val true (.fn f n cs) | .bref k T=>.val true (.bref k T) | .aref k g i E p T=>(bif ags st k g then .val true (.aref k g i E p T) else .fail) | _=>.fail
 | .binOp b T x y _=>ank P b T y (o x) (o y)
 | .unOp u _ x=>unAc u (o x)
 | .convert s d x=>afd P st s d (o x)
 | .makeFunc fn first cs=>aex fn (first.toList.map o) (cs.toList.map o)
 | .makeMap T r=>aea P T r st
 | .slice T x M H O=>ajy P T (o x) (M.map o) (H.map o) (O.map o)
 | .fieldAddr S x i=>acu P st S i (o x)
 | .field S x i=>ajp P S i (o x)
 | .indexAddr T x i=>acv P T st (o x) (o i)
 | .index T x i=>ajq P T (o x) (o i)
 | .lookup T m k ok=>afi P T st (o m) (o k) ok
 | .insert T m k v | .mapUpdate T m k v=>abv P T st (o m) (o k) (o v)
 | .extract t i=>ahy (o t) i
 | .range T x=>ajs P T st (o x)
 | .next x b=>aol st (o x) b
 | .call c=>aj6 c o P st
 | .makeInterface T x=>ah7 P T (o x)
 | .panic x=>aor (o x)
 | _=>.fail
def ann (P:Program) (T:Option TypeId) (s:SV):Option SV:=
 match s with
 | .bool _ | .int _ _ | .str _ | .slice _ _ | .data _ _ | .map _ _ _ | .raw _ | .pto _ _ | .eif _=>some s
 | .acc _ _ E xs=>some (.slice E xs)
 | .lit E xs=>some (.slice E xs)
 | .nils=>match T with | some T=>(match P.underlying T with | some (.slice E)=>some (.slice E []) | _=>none) | none=>none
 | .agg d _=>bif isOf P d s then some (.data d (toPV s)) else none
 | _=>none
mutual
def an8 (d:Bool) (st:List BX):SV->List Nat
 | .ref k _ _=>[k]
 | .bref k _=>[k]
 | .mref k=>[k]
 | .arr k _ _=>[k]
 | .aref k _ _ _ _ _=>[k]
 | .eref k _ _=>[k]
 | .asl k _ _ _=>[k]
 | .acc k g _ _=>bif d&&apf st k g then [k] else []
 | .fn _ _ caps=>agb d st caps
 | .agg _ fs=>agb d st fs
 | .ifc _ s=>an8 d st s
 | .pan s=>an8 d st s
 | _=>[]
def agb (d:Bool) (st:List BX):List SV->List Nat
 | []=>[]
 | s::r=>an8 d st s++agb d st r
end
def a42 (st:List BX) (k:Nat):List Nat:=match st[k]? with | some (.box _ s)=>an8 true st s | _=>[]
def afy (ks:List Nat):List Nat->List Nat
 | []=>ks
 | k::r=>afy (bif ks.any (Nat.beq k) then ks else ks++[k]) r
def axj (st:List BX):Nat->List Nat->List Nat
 | 0,ks=>ks
 | n+1,ks=>axj st n (afy ks (ks.flatMap (a42 st)))
def aa3 (st:List BX) (args:List SV):List Nat:=axj st 4 (afy [] (agb false st args))
def idx (k:Nat):List Nat->Nat
 | []=>0
 | x::r=>bif Nat.beq k x then 0 else idx k r+1
def adf (ks:List Nat) (k:Nat):Option Nat:=bif ks.any (Nat.beq k) then some (idx k ks) else none
mutual
def renS (st:List BX) (d:Nat->Option Nat) (m:Nat->Nat):SV->Option SV
 | .acc k g E xs=>some (match d k with | some k'=>(bif apf st k g then .acc k' (m k) E xs else .slice E xs) | none=>.slice E xs)
 | .ref k p T=>match d k with | some k'=>some (.ref k' p T) | none=>none
 | .bref k T=>match d k with | some k'=>some (.bref k' T) | none=>none
 | .mref k=>match d k with | some k'=>some (.mref k') | none=>none
 | .arr k g E=>match d k with | some k'=>(bif ags st k g then some (.arr k' (m k) E) else none) | none=>none
 | .aref k g i E p T=>match d k with | some k'=>(bif ags st k g then some (.aref k' (m k) i E p T) else none) | none=>none
 | .eref k i E=>match d k with | some k'=>some (.eref k' i E) | none=>none
 | .asl k o n E=>match d k with | some k'=>some (.asl k' o n E) | none=>none
 | .fn f n caps=>match renL st d m caps with | some cs=>some (.fn f n cs) | none=>none
 | .agg T fs=>match renL st d m fs with | some gs=>some (.agg T gs) | none=>none
 | .lit E xs=>some (.slice E xs)
 | .ifc T s=>match renS st d m s with | some x=>some (.ifc T x) | none=>none
 | .pan s=>match renS st d m s with | some x=>some (.pan x) | none=>none
 | .iref _=>none
 | .gd _ _ _=>none
 | .nx _ _ _=>none
 | .tup _=>none
 | s=>some s
def renL (st:List BX) (m:Nat->Option Nat) (d:Nat->Nat):List SV->Option (List SV)
 | []=>some []
 | s::r=>match renS st m d s,renL st m d r with | some x,some q=>some (x::q) | _,_=>none
end
def aja (st:List BX) (m:Nat->Option Nat) (d:Nat->Nat) (k:Nat):BX->Option BX
 | .box T s=>match renS st m d s with | some x=>some (.box T x) | none=>none
 | .acc _=>some (.acc (d k))
 | .arr E _ xs=>some (.arr E (d k) xs)
 | .iter _ _=>none
 | b=>some b
def a6n (st:List BX) (m:Nat->Option Nat) (d:Nat->Nat):Nat->List BX->Option (List BX)
 | _,[]=>some []
 | k,b::r=>match aja st m d k b,a6n st m d (k+1) r with | some x,some q=>some (x::q) | _,_=>none
def ajc (st:List BX) (m:Nat->Option Nat) (d:Nat->Nat):List Nat->Option (List BX)
 | []=>some []
 | k::ks=>
  match st[k]? with
  | some b=>match aja st m d k b,ajc st m d ks with | some x,some q=>some (x::q) | _,_=>none
  | none=>none
def ade (n:Nat) (ks:List Nat) (j:Nat):Option Nat:=match ks[j]? with | some k=>some k | none=>some (n+(j-ks.length))
def agu (st:List BX) (ks:List Nat) (sub:List BX) (j:Nat):Nat:=
 match ks[j]? with
 | some k=>(match st[k]? with | some (.acc g)=>g+1 | some (.arr _ g _)=>(match sub[j]? with | some (.arr _ g' _)=>(bif Nat.beq g' 0 then g else g+1) | _=>g+1) | _=>0)
 | none=>0
def ajo (st:List BX) (k:Nat):Nat:=match st[k]? with | some (.arr _ g _)=>(bif Nat.beq g 0 then 0 else 1) | _=>0
def agt (st:List BX) (ks:List Nat) (rs:List SV) (sub:List BX):Option (List SV×List BX):=
 match renL sub (ade st.length ks) (agu st ks sub) rs,a6n sub (ade st.length ks) (agu st ks sub) 0 sub with
 | some d,some bs=>some (d,bs)
 | _,_=>none
def aho (rs:List SV) (sub:List BX):Option (List SV):=match sub with | []=>renL [] (λ_=>none) (λ_=>0) rs | _=>none
def ab8:List Nat->List BX->List BX->List BX
 | k::ks,b::bs,st=>ab8 ks bs (st.set k b)
 | [],bs,st=>st++bs
 | _::_,[],st=>st
def ad2:List SV->SV
 | [x]=>x
 | xs=>.tup xs
def fork {R:Type} (rs:List SV) (k:Option R) (x:SV->Option R):Option R:=
 match rs with
 | [.pan s]=>x s
 | _=>k
inductive LEx where
 | exit (i:Nat)
 | ret
 | pan
structure Cfg where
 P:Program
 own:Bool
 n:Nat
 np:Nat
 call:(R:Type)->Bool->FuncId->List SV->List BX->(List SV->List BX->Option R)->Option R
 lam:(R:Type)->Nat->Env->List BX->(LEx->Env->List BX->Option R)->Option R
def apk (n:Nat) (d:Option Nat):Bool:=match d with | some d=>Nat.blt d n | none=>true
def argTs (d:Op):List TypeId:=match d with | .call c=>c.argTypes.toList | _=>[]
def dsts (ops:List Oper):List Nat:=ops.filterMap (·.dst)
def bc8 {R:Type} (C:Cfg) (ops:Array Oper) (o:Oper) (H:List Oper) (e:Env) (st:List BX) (K:Env->List BX->Option R) (X:SV->List BX->Option R):Option R:=
 bif apk C.n o.dst then
  match o.guard with
  | none=>
   match ac C.P o.op (opd e []) (match o.op with | .pick (.tmp t) _ _=>opd e [(t,true)] | _=>opd e []) (match o.op with | .pick (.tmp t) _ _=>opd e [(t,false)] | _=>opd e []) st with
   | .fail=>none
   | .val c v=>bif c then K (put e o.dst v) st else none
   | .upd c v st'=>bif c then K (put e o.dst v) st' else none
   | .pan v=>X v st
   | .call f args=>
    match renL st (adf (aa3 st args)) (λ_=>0) args,ajc st (adf (aa3 st args)) (λ_=>0) (aa3 st args) with
    | some z,some sub=>C.call R true f z sub λrs m=>match agt st (aa3 st args) rs m with | some (rs',bs)=>fork rs' (K (put e o.dst (ad2 rs')) (ab8 (aa3 st args) bs st)) (λs=>X s (ab8 (aa3 st args) bs st)) | none=>none
    | _,_=>none
  | some (j,d)=>
   match (ops[j]?).bind (·.dst) with
   | none=>none
   | some t=>
    bif (dsts (o::H)).any (Nat.beq t) then none else
    match gval e 8 t d with
    | none=>none
    | some b=>
     match ac C.P o.op (opd e [(t,d)]) (match o.op with | .pick (.tmp u) _ _=>opd e [(u,true),(t,d)] | _=>opd e []) (match o.op with | .pick (.tmp u) _ _=>opd e [(u,false),(t,d)] | _=>opd e []) st with
     | .val c v=>bif imp b c then K (put e o.dst (.gd t d v)) st else none
     | .call f args=>
          match aa3 st args,renL st (adf []) (λ_=>0) args with
          | [],some z=>C.call R b f z [] λrs m=>match aho rs m with | some rs'=>fork rs' (K (put e o.dst (.gd t d (ad2 rs'))) st) (λ_=>none) | none=>none
          | _,_=>
           bif b then
            match renL st (adf (aa3 st args)) (λ_=>0) args,ajc st (adf (aa3 st args)) (λ_=>0) (aa3 st args) with
            | some z,some sub=>C.call R true f z sub λrs m=>match agt st (aa3 st args) rs m with | some (rs',bs)=>fork rs' (K (put e o.dst (.gd t d (ad2 rs'))) (ab8 (aa3 st args) bs st)) (λs=>X s (ab8 (aa3 st args) bs st)) | none=>none
            | _,_=>none
           else K (put e o.dst (.gd t d (abp C.P 12 o.type))) st
     | _=>none
 else none
def azj {R:Type} (C:Cfg) (ops:Array Oper):List Oper->Env->List BX->(Env->List BX->Option R)->(SV->List BX->Option R)->Option R
 | [],e,st,K,_=>K e st
 | o::r,e,st,K,X=>bc8 C ops o r e st (λe st=>azj C ops r e st K X) X
def sweep (e:Env):Env:=λt=>match e t with | .gd _ _ _=>.undef | v=>v
def opV {R:Type} (C:Cfg) (ops:Array Oper) (o:Oper) (e:Env) (st:List BX) (K:SV->List BX->Option R) (X:SV->List BX->Option R):Option R:=
 match o.guard with
 | none=>
  match ac C.P o.op (opd e []) (match o.op with | .pick (.tmp t) _ _=>opd e [(t,true)] | _=>opd e []) (match o.op with | .pick (.tmp t) _ _=>opd e [(t,false)] | _=>opd e []) st with
  | .fail=>none
  | .val c v=>bif c then K v st else none
  | .upd c v st'=>bif c then K v st' else none
  | .pan _=>none
  | .call f args=>
   match renL st (adf (aa3 st args)) (λ_=>0) args,ajc st (adf (aa3 st args)) (λ_=>0) (aa3 st args) with
   | some z,some sub=>C.call R true f z sub λrs m=>match agt st (aa3 st args) rs m with | some (rs',bs)=>fork rs' (K (ad2 rs') (ab8 (aa3 st args) bs st)) (λs=>X s (ab8 (aa3 st args) bs st)) | none=>none
   | _,_=>none
 | some (j,d)=>
  match (ops[j]?).bind (·.dst) with
  | none=>none
  | some t=>
   match gval e 8 t d with
   | none=>none
   | some b=>
    match ac C.P o.op (opd e [(t,d)]) (match o.op with | .pick (.tmp u) _ _=>opd e [(u,true),(t,d)] | _=>opd e []) (match o.op with | .pick (.tmp u) _ _=>opd e [(u,false),(t,d)] | _=>opd e []) st with
    | .val c v=>bif imp b c then K (.gd t d v) st else none
    | .call f args=>
         match aa3 st args,renL st (adf []) (λ_=>0) args with
         | [],some z=>C.call R b f z [] λrs m=>match aho rs m with | some rs'=>fork rs' (K (.gd t d (ad2 rs')) st) (λ_=>none) | none=>none
         | _,_=>none
    | _=>none
def an4 (d:Op):Bool:=match d with | .call _=>true | _=>false
def opW {R:Type} (C:Cfg) (ops:Array Oper) (o:Oper) (e:Env) (st:List BX) (K:SV->Option R):Option R:=
 match o.guard with
 | none=>
  match ac C.P o.op (opd e []) (match o.op with | .pick (.tmp t) _ _=>opd e [(t,true)] | _=>opd e []) (match o.op with | .pick (.tmp t) _ _=>opd e [(t,false)] | _=>opd e []) st with
  | .val c v=>bif c then K v else none
  | .call f args=>
   bif an4 o.op then
    match aa3 st args,renL st (adf []) (λ_=>0) args with
    | [],some as=>C.call R true f as [] λrs m=>match aho rs m with | some rs'=>fork rs' (K (ad2 rs')) (λ_=>none) | none=>none
    | _,_=>none
   else none
  | _=>none
 | some (j,d)=>
  bif an4 o.op then opV C ops o e st (λv _=>K v) (λ_ _=>none) else
  match (ops[j]?).bind (·.dst) with
  | none=>none
  | some t=>
   match gval e 8 t d with
   | none=>none
   | some b=>
    match ac C.P o.op (opd e [(t,d)]) (match o.op with | .pick (.tmp u) _ _=>opd e [(u,true),(t,d)] | _=>opd e []) (match o.op with | .pick (.tmp u) _ _=>opd e [(u,false),(t,d)] | _=>opd e []) st with
    | .val c v=>bif imp b c then K (.gd t d v) else none
    | _=>none
def agw (d:List Nat):List Edge->Nat
 | []=>0
 | x::r=>bif Region.binds .any x then (2^x.on ||| d.getD x.on 0) ||| agw d r else agw d r
def ancL:List Oper->List Nat->List Nat
 | [],acc=>acc
 | o::r,acc=>ancL r (acc++[agw acc o.after.toList])
def ark:List Oper->Nat->Bool
 | [],_=>true
 | o::r,j=>o.after.toList.all (λx=>!(Region.binds .any x)||Nat.blt x.on j)&&ark r (j+1)
def ay8:List Nat->Bool
 | []=>true
 | x::r=>!(r.any (Nat.beq x))&&ay8 r
def acq (t:Nat):List Oper->Nat->Option Nat
 | [],_=>none
 | o::r,i=>match o.dst with | some d=>(bif Nat.beq d t then some i else acq t r (i+1)) | none=>acq t r (i+1)
def adg (d:Op):Bool:=match d with | .alloc _=>true | .box _ _=>true | .makeMap _ _=>true | _=>false
def extV (P:Program) (m:Op) (d:Operand->SV) (k:Nat):Option (SV×BX):=
 match m with
 | .alloc T=>bif ajh P T then some (.bref k T,.bld T []) else bif adc P T then some (.ref k [] T,.box T (abp P 12 T)) else none
 | .box T x=>bif ajh P T&&al5 P 3 T (d x) then some (.bref k T,.bld T []) else bif ah0 P T (d x) then some (.ref k [] T,.box T (d x)) else none
 | .makeMap T r=>match P.underlying T,r with | some (.map K E),none=>some (.mref k,.map K E []) | _,_=>none
 | _=>none
def a4p (d:Op):Bool:=
 match d with
 | .alloc _=>true | .box _ _=>true | .makeMap _ _=>true | .makeSlice _ _ _=>true | .store _ _ _=>true | .insert _ _ _ _=>true | .mapUpdate _ _ _ _=>true | .range _ _=>true | .next _ _=>true
 | .call c=>(match c.callee with | .builtin .append=>true | _=>false)
 | _=>false
def bcm (d:Op):Bool:=match d with | .call c=>(match c.callee with | .value _=>true | _=>false) | _=>false
def beb (d:Op):Bool:=match d with | .load _ _=>true | .lookup _ _ _ _=>true | .call _=>true | _=>false
structure DI where
 l:List Oper
 anc:List Nat
def DI.lt (d:DI) (i j:Nat):Bool:=Nat.blt i j&&Nat.testBit (d.anc.getD j 0) i
def DI.cmp (d:DI) (i j:Nat):Bool:=bif Nat.beq i j then true else bif Nat.blt i j then d.lt i j else d.lt j i
def anh (f:Nat->Oper->Bool):List Oper->Nat->Bool
 | [],_=>true
 | o::r,i=>f i o&&anh f r (i+1)
def bea (d:Op):Bool:=match d with | .load _ _=>true | _=>false
def DI.upd (d:DI) (j:Nat) (o:Oper):Bool:=a4p o.op||(bcm o.op&&anh (λi x=>!(a4p x.op||beb x.op)||d.cmp i j||(bea x.op&&Nat.blt i j)) d.l 0)
def DI.soft (d:DI) (o:Oper):Bool:=match o.op with | .store _ (.tmp t) _=>(match acq t d.l 0 with | some i=>(match d.l[i]? with | some x=>adg x.op | none=>false) | none=>false) | _=>false
def DI.isA (d:DI) (j:Nat):Bool:=anh (λi x=>!(d.upd i x)||d.cmp i j) d.l 0
def DI.isN (d:DI) (j:Nat):Bool:=anh (λi x=>!(d.upd i x&&!(adg x.op))||d.cmp i j) d.l 0
def DI.isB (d:DI) (j:Nat):Bool:=anh (λi x=>!(d.upd i x&&!(adg x.op||d.soft x))||d.cmp i j) d.l 0
def a5d (d:Nat) (o:Oper) (e:Env):Bool:=match o.op with | .store _ a _=>(match opd e [] a with | .ref k _ _=>Nat.ble d k | _=>false) | _=>false
def DI.mask (d:DI) (j:Nat) (e:Env):Env:=λt=>match acq t d.l 0 with | some i=>(bif d.cmp i j then e t else .undef) | none=>e t
def gdOk (d:DI) (j:Nat) (o:Oper):Bool:=match o.guard with | some (g,_)=>d.lt g j | none=>true
def DI.last (d:DI) (j:Nat):Bool:=anh (λi _=>Nat.ble i j||d.lt j i) d.l 0
def amj:SV->Option Nat
 | .ref k _ _=>some k
 | .eref k _ _=>some k
 | .aref k _ _ _ _ _=>some k
 | _=>none
structure LM where
 j:Nat
 T:TypeId
 a:SV
 k:Nat
 v:SV
def lmOf (d:DI) (m j:Nat) (o:Oper) (e:Env):Option LM:=
 match o.guard,o.op with
 | none,.load T a=>
  match amj (opd e [] a) with
  | some k=>bif Nat.blt k m&&!(d.isA j)&&!(d.isB j)&&anh (λi x=>!(d.upd i x)||Nat.ble j i||d.cmp i j) d.l 0 then some ⟨j,T,opd e [] a,k,.undef⟩ else none
  | none=>none
 | _,_=>none
def axu (a:Ac) (v:SV):Bool:=
 match a,v with
 | .val true (.arr k g E),.arr o m d=>Nat.beq k o&&Nat.beq g m&&Nat.beq E d
 | _,_=>false
def asf (C:Cfg) (o:Oper) (e:Env) (st:List BX) (k:Nat):Bool:=
 match o.guard,ac C.P o.op (opd e []) (match o.op with | .pick (.tmp t) _ _=>opd e [(t,true)] | _=>opd e []) (match o.op with | .pick (.tmp t) _ _=>opd e [(t,false)] | _=>opd e []) st with
 | none,.call _ args=>!((aa3 st args).any (Nat.beq k))
 | none,.upd _ _ _=>(match o.op with | .store _ a _=>(match amj (opd e [] a) with | some i=>!(Nat.beq i k) | none=>false) | _=>false)
 | _,_=>false
def lmOk (C:Cfg) (d:DI) (j:Nat) (o:Oper) (e:Env) (st st':List BX) (m:List LM):Bool:=
 m.all λp=>d.cmp p.j j||adg o.op||d.soft o||asf C o e st p.k||axu (adb C.P p.T st' p.a) p.v
def runD {R:Type} (C:Cfg) (d:DI) (ops:Array Oper) (m:Nat):List Oper->Nat->Env->List BX->List LM->(Env->List BX->Option R)->(SV->List BX->Option R)->Option R
 | [],_,e,st,_,K,_=>K e st
 | o::r,j,e,st,lk,K,X=>
  bif apk C.n o.dst&&gdOk d j o then
   bif d.upd j o then
    bif (bif adg o.op then d.isN j else d.isA j)&&Nat.ble m st.length&&(!(d.soft o)||a5d m o (d.mask j e)) then
     opV C ops o (d.mask j e) st (λv st'=>bif Nat.ble m st'.length&&lmOk C d j o (d.mask j e) st st' lk then runD C d ops m r (j+1) (put e o.dst v) st' lk K X else none) (λs st'=>bif d.last j&&!(adg o.op) then X s st' else none)
    else none
   else
    match lmOf d m j o (d.mask j e) with
    | some p=>opW C ops o (d.mask j e) st λv=>runD C d ops m r (j+1) (put e o.dst v) st (lk++[{ p with v:=v }]) K X
    | none=>opW C ops o (d.mask j e) (bif d.isA j then st else st.take (bif d.isB j then m else 0)) λv=>runD C d ops m r (j+1) (put e o.dst v) st lk K X
  else none
def mkDI (ops:Array Oper):DI:={ l:=ops.toList,anc:=ancL ops.toList [] }
def at6 (P:Program) (ops:Array Oper):Bool:=P.follows .mixedOrders&&ark ops.toList 0&&ay8 (dsts ops.toList)
def runR {R:Type} (C:Cfg) (ops:Array Oper) (d:Bool) (e:Env) (st:List BX) (K:Env->List BX->Option R) (X:SV->List BX->Option R):Option R:=
 bif d then (bif at6 C.P ops then runD C (mkDI ops) ops st.length ops.toList 0 e st [] K X else none) else azj C ops ops.toList e st K X
structure Ks (R:Type) where
 norm:Env->List BX->Option R
 exit:Nat->Env->List BX->Option R
 ret:Env->List BX->Option R
 pan:SV->List BX->Option R
def amq:Code->Nat
 | .region id _ _=>id+1
 | .seq a b=>match amq a with | 0=>amq b | n=>n
 | .block _ c=>amq c
 | .cond _ a b=>match amq a with | 0=>amq b | n=>n
 | .loop c=>amq c
 | .scope c=>amq c
 | _=>0
def exec {R:Type} (C:Cfg):Code->Ks R->Env->List BX->Option R
 | .skip,K,e,st=>K.norm e st
 | .region _ ops m,K,e,st=>runR C ops m e st (λe st=>K.norm (sweep e) st) K.pan
 | .seq a b,K,e,st=>exec C a { norm:=exec C b K,exit:=K.exit,ret:=K.ret,pan:=K.pan } e st
 | .cond c x y,K,e,st=>
  match c with
  | .tmp t=>match e t with | .bool b=>bif b then exec C x K (e.set t (.bool true)) st else exec C y K (e.set t (.bool false)) st | _=>none
  | .const (.bool b)=>bif b then exec C x K e st else exec C y K e st
  | _=>none
 | .block id d,K,e,st=>exec C d { norm:=K.norm,exit:=λi e st=>bif Nat.beq i id then K.norm e st else K.exit i e st,ret:=K.ret,pan:=K.pan } e st
 | .loop d,K,e,st=>C.lam R (amq d) e st λx e st=>match x with | .exit i=>K.exit i e st | .ret=>K.ret e st | .pan=>K.pan (e 0) st
 | .exit i,K,e,st=>K.exit i e st
 | .ret,K,e,st=>K.ret e st
 | _,_,_,_=>none
def bbo (P:Program) (e:Env) (st:List BX) (r:ResultVar):Option SV:=
 match r with
 | .tmp t=>match e t with | .gd _ _ _=>none | s=>some s
 | .cell t d=>match e t with
  | .ref k [] m=>bif Nat.beq d m&&(P.underlying d).isSome&&(aak P d||Nat.beq (P.cellsOf d) 1) then (match st[k]? with | some (.box _ s)=>some s | _=>none) else none
  | _=>none
def au4 (P:Program) (e:Env) (st:List BX):List ResultVar->Option (List SV)
 | []=>some []
 | r::rs=>match bbo P e st r,au4 P e st rs with | some x,some q=>some (x::q) | _,_=>none
mutual
def atu:SV->List Nat
 | .arr k _ _=>[k]
 | .agg _ fs=>a3a fs
 | _=>[]
def a3a:List SV->List Nat
 | []=>[]
 | s::r=>atu s++a3a r
end
mutual
def frzS (st:List BX):SV->SV
 | .arr k g E=>(match aj4 st k g E with | some xs=>.slice E xs | none=>.undef)
 | .agg T fs=>.agg T (frzL st fs)
 | s=>s
def frzL (st:List BX):List SV->List SV
 | []=>[]
 | s::r=>frzS st s::frzL st r
end
def bc1 (P:Program) (own:Bool) (st:List BX) (T:TypeId) (s:SV):Option SV:=
 match s with
 | .mref k=>match st[k]? with | some (.map K E es)=>some (.map K E es) | _=>none
 | .arr k g E=>bif own then some (.arr k g E) else (match aj4 st k g E with | some xs=>some (.slice E xs) | none=>none)
 | .pto _ _=>none
 | .ref k p d=>some (.ref k p d)
 | .bref k d=>some (.bref k d)
 | .agg d fs=>bif own then (match ann P (some T) (.agg d fs) with | some x=>some x | none=>some (.agg d fs)) else (match ann P (some T) (frzS st (.agg d fs)) with | some x=>some x | none=>some (frzS st (.agg d fs)))
 | s=>ann P (some T) s
def ajw (P:Program) (own:Bool) (st:List BX):List TypeId->List SV->Option (List SV)
 | [],[]=>some []
 | T::ts,s::ss=>match bc1 P own st T s,ajw P own st ts ss with | some x,some q=>some (x::q) | _,_=>none
 | _,_=>none
def frozen (own:Bool):List SV->List Nat
 | []=>[]
 | .mref k::r=>k::frozen own r
 | .arr k _ _::r=>bif own then frozen own r else k::frozen own r
 | .agg T fs::r=>bif own then frozen own r else a3a fs++frozen own r
 | _::r=>frozen own r
def af6 (st:List BX) (np:Nat) (d:List SV):List Nat:=axj st 4 (afy (List.range np) (agb false st d))
def arl (P:Program) (own:Bool) (e:Env) (st:List BX) (np:Nat) (ts:List TypeId) (rs:List ResultVar):Option (List SV×List BX):=
 match au4 P e st rs with
 | none=>none
 | some d=>
  match ajw P own st ts d with
  | none=>none
  | some m=>
   bif (frozen own d).all (λk=>!((af6 st np m).any (Nat.beq k))) then
    match renL st (adf (af6 st np m)) (ajo st) m,ajc st (adf (af6 st np m)) (ajo st) (af6 st np m) with
    | some o,some sub=>some (o,sub)
    | _,_=>none
   else none
def a3y (P:Program) (st:List BX) (np:Nat) (s:SV):Option (List SV×List BX):=
 match s with
 | .ifc T x=>
  match ann P (some T) x,ajc st (adf (af6 st np [])) (ajo st) (af6 st np []) with
  | some d,some sub=>some ([.pan (.ifc T d)],sub)
  | _,_=>none
 | _=>none
def ap0 (args:List SV):Env:=λt=>args.getD t .undef
def aua {R:Type} (C:Cfg) (fn:Func) (args:List SV) (st:List BX) (K:List SV->List BX->Option R):Option R:=
 match fn.body with
 | some c=>
  let d:Env->List BX->Option R:=λe s=>match arl C.P C.own e s st.length fn.resultTypes.toList fn.results.toList with | some (rs,s')=>K rs s' | none=>none
  exec C c { norm:=d,exit:=λ_ _ _=>none,ret:=d,pan:=λs st'=>match a3y C.P st' st.length s with | some (rs,s')=>K rs s' | none=>none } (ap0 args) st
 | none=>none
end Go.Ab
