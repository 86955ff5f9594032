/- The evaluator over abstract values. Nothing is proved here. -/
import Derived.Test.YtodichgnoiaanaaGreatAbVal
set_option linter.unusedVariables false
set_option linter.unusedSimpArgs false
set_option linter.unnecessarySimpa false
namespace Go.Ab
open Go
abbrev Env:=Nat->SV
def Env.set (e:Env) (d:Nat) (v:SV):Env:=fun t=>bif Nat.beq t d then v else e t
def put (e:Env) (d:Option Nat) (v:SV):Env:=
 match d with
 | some d=>e.set d v
 | none=>e
def ah6 (e:Env):Nat->Nat->Bool->Nat->Bool->Bool
 | 0,_,_,_,_=>false
 | f+1,t1,w1,t,w=>bif Nat.beq t1 t&&(bif w1 then w else !w) then true else
  match e t1 with
  | .gd t2 w2 _=>ah6 e f t2 w2 t w
  | _=>false
def ag4 (e:Env):List (Nat×Bool)->Nat->Bool->Bool
 | [],_,_=>false
 | (t1,w1)::r,t,w=>bif ah6 e 8 t1 w1 t w then true else ag4 e r t w
def rd (e:Env) (gs:List (Nat×Bool)) (s:SV):SV:=
 match s with
 | .gd t w v=>bif ag4 e gs t w then v else .undef
 | s=>s
def as7 (v:Value):SV:=
 match v with
 | .bool b=>.bool b
 | .int k n=>.int k n
 | .string s=>.str s.data.toList
 | .slice none 0 0=>.nils
 | .nilIface=>.eif true
 | v=>.raw v
def opd (e:Env) (gs:List (Nat×Bool)) (x:Operand):SV:=
 match x with
 | .tmp t=>rd e gs (e t)
 | .const v=>as7 v
 | .global _=>.undef
 | .func f=>.fn f 0 []
def bq (b w:Bool):Bool:=bif w then b else !b
def gval (e:Env):Nat->Nat->Bool->Option Bool
 | 0,_,_=>none
 | f+1,t,w=>
  match e t with
  | .bool b=>some (bq b w)
  | .gd t1 w1 (.bool b)=>
   match gval e f t1 w1 with
   | some c=>some (bif bq b w then c else false)
   | none=>none
  | _=>none
def imp (b c:Bool):Bool:=bif c then true else !b
def aad:Nat:=4611686018427387904
def aao:Nat:=68719476736
def ab3 (P:Program):List Field->Nat->Option Nat
 | [],n=>some n
 | f::r,n=>bif Nat.beq f.offset n&&!(Nat.beq (P.cellsOf f.type) 0)&&(aaj P f.type||Nat.beq (P.cellsOf f.type) 1) then ab3 P r (n+P.cellsOf f.type) else none
def abz (P:Program) (T:TypeId):Bool:=
 match P.underlying T with
 | some (.struct fs)=>
  match ab3 P fs.toList 0 with
  | some n=>Nat.beq n (P.cellsOf T)
  | none=>false
 | _=>false
mutual
def toPV:SV->PV
 | .bool b=>.bool b
 | .int _ n=>.int n
 | .str s=>.str s
 | .slice _ xs=>.slice xs
 | .data _ v=>v
 | .agg _ fs=>.agg (aqd fs)
 | .map _ _ es=>.map es
 | .nils=>.slice []
 | .acc _ _ _ xs=>.slice xs
 | .lit _ xs=>.slice xs
 | .raw v=>.raw v
 | _=>.bad
def aqd:List SV->List PV
 | []=>[]
 | s::r=>toPV s::aqd r
end
mutual
def isOf (P:Program) (T:TypeId):SV->Bool
 | .bool _=>match P.underlying T with | some .bool=>true | _=>false
 | .int k _=>match P.underlying T with | some (.int k')=>decide (k=k') | _=>false
 | .str _=>match P.underlying T with | some .string=>true | _=>false
 | .slice E _=>match P.underlying T with | some (.slice E')=>Nat.beq E E' | _=>false
 | .data T' _=>Nat.beq T T'
 | .agg T' fs=>Nat.beq T T'&&abz P T&&(match P.underlying T with | some (.struct ds)=>aw4 P ds.toList fs | _=>false)
 | .map K E _=>match P.underlying T with | some (.map K' E')=>Nat.beq K K'&&Nat.beq E E' | _=>false
 | .nils=>match P.underlying T with | some (.slice _)=>true | _=>false
 | .acc _ _ E _=>match P.underlying T with | some (.slice E')=>Nat.beq E E' | _=>false
 | .lit E _=>match P.underlying T with | some (.slice E')=>Nat.beq E E' | _=>false
 | .raw v=>rawT P T&&v.oneCell'
 | _=>false
def aw4 (P:Program):List Field->List SV->Bool
 | [],[]=>true
 | f::r,s::q=>isOf P f.type s&&aw4 P r q
 | _,_=>false
end
def af9 (P:Program) (T:TypeId) (s:SV):Bool:=
 match s with
 | .data T' _ | .agg T' _=>Nat.beq T T'&&aaj P T
 | .undef | .tup _ | .gd _ _ _ | .nx _ _ _=>false
 | .raw v=>!aaj P T&&Nat.beq (P.cellsOf T) 1&&v.oneCell'
 | _=>!aaj P T&&Nat.beq (P.cellsOf T) 1
def afx (P:Program) (T:TypeId) (v:PV):List Field->Nat->List SV
 | [],_=>[]
 | f::r,i=>ofPV P f.type (v.fld i)::afx P T v r (i+1)
def af4 (P:Program) (TB:TypeId) (s:SV):Option (List SV):=
 bif abz P TB then
  match s with
  | .agg T fs=>bif Nat.beq TB T then some fs else none
  | .data T v=>bif Nat.beq TB T then (match P.underlying TB with | some (.struct ds)=>some (afx P T v ds.toList 0) | _=>none) else none
  | _=>none
 else none
def agn (P:Program):TypeId->SV->List Nat->Option SV
 | _,s,[]=>some s
 | TB,s,i::p=>
  match af4 P TB s,P.underlying TB with
  | some fs,some (.struct ds)=>match fs[i]?,ds[i]? with | some x,some f=>agn P f.type x p | _,_=>none
  | _,_=>none
def agy (P:Program):TypeId->SV->List Nat->SV->Option SV
 | _,_,[],x=>some x
 | TB,s,i::p,x=>
  match af4 P TB s,P.underlying TB with
  | some fs,some (.struct ds)=>
   match fs[i]?,ds[i]? with
   | some y,some f=>match agy P f.type y p x with | some z=>some (.agg TB (fs.set i z)) | none=>none
   | _,_=>none
  | _,_=>none
def abd (P:Program):Nat->TypeId->SV
 | 0,_=>.undef
 | n+1,T=>
  match P.underlying T with
  | some .bool=>.bool false
  | some (.int k)=>.int k 0
  | some .string=>.str []
  | some (.slice _)=>.nils
  | some (.struct fs)=>.agg T (fs.toList.map fun f=>abd P n f.type)
  | some (.array k E)=>.data T (.agg (List.replicate k (toPV (abd P n E))))
  | some (.map K E)=>.map K E []
  | some (.pointer _)=>.raw (.pointer none)
  | some (.func _ _ _)=>.raw .nilFunc
  | some (.interface _)=>.raw .nilIface
  | _=>.undef
def zeroCells? (P:Program):Nat->TypeId->List Value->Bool
 | 0,_,_=>false
 | n+1,T,cs=>
  match P.underlying T,cs with
  | some .bool,[.bool b]=>!b
  | some (.int k),[.int k' m]=>decide (k=k')&&decide (m=0)
  | some .string,[.string s]=>s.data.toList.isEmpty
  | some (.slice _),[.slice none 0 0]=>true
  | some (.struct fs),cs=>abz P T&&Nat.beq cs.length (P.cellsOf T)&&fs.toList.all fun f=>zeroCells? P n f.type ((cs.drop f.offset).take (P.cellsOf f.type))
  | some (.array k E),cs=>Nat.beq cs.length (P.cellsOf T)&&Nat.beq (P.cellsOf T) (k*P.cellsOf E)&&(aaj P E||Nat.beq (P.cellsOf E) 1)&&isOf P E (abd P n E)&&(List.range k).all fun i=>zeroCells? P n E ((cs.drop (i*P.cellsOf E)).take (P.cellsOf E))
  | some (.map _ _),[.map none]=>true
  | some (.pointer _),[.pointer none]=>true
  | some (.func _ _ _),[.nilFunc]=>true
  | some (.interface _),[.nilIface]=>true
  | _,_=>false
def ab5 (P:Program) (T:TypeId):Bool:=
 match (P.info? T).map (·.zero) with
 | some (some z)=>zeroCells? P 12 T z.cells.toList&&Nat.beq z.cells.size (P.cellsOf T)&&(match z with | .agg _=>aaj P T | _=>!aaj P T)
 | _=>false
def a1w (op:BinOp) (k:IntKind) (x y:Int):Int:=
 match op with
 | .and=>k.wrap (BitVec.ofInt k.bits x &&& BitVec.ofInt k.bits y).toNat
 | .or=>k.wrap (BitVec.ofInt k.bits x ||| BitVec.ofInt k.bits y).toNat
 | .xor=>k.wrap (BitVec.ofInt k.bits x ^^^ BitVec.ofInt k.bits y).toNat
 | _=>k.wrap (BitVec.ofInt k.bits x &&& ~~~(BitVec.ofInt k.bits y)).toNat
inductive Ac where
 | fail
 | val (c:Bool) (v:SV)
 | upd (c:Bool) (v:SV) (st:List BX)
 | call (f:FuncId) (args:List SV)
 | pan (v:SV)
 deriving Inhabited
def aw3 (op:BinOp) (k:IntKind) (x y:Int):Ac:=
 match op with
 | .add=>.val true (.int k (k.wrap (x+y)))
 | .sub=>.val true (.int k (k.wrap (x-y)))
 | .mul=>.val true (.int k (k.wrap (x*y)))
 | .quo=>.val (!(decide (y=0))) (.int k (k.wrap (x.tdiv y)))
 | .rem=>.val (!(decide (y=0))) (.int k (x.tmod y))
 | .and | .or | .xor | .andNot=>.val true (.int k (a1w op k x y))
 | .eql=>.val true (.bool (x==y))
 | .neq=>.val true (.bool (x != y))
 | .lss=>.val true (.bool (decide (x<y)))
 | .leq=>.val true (.bool (decide (x<=y)))
 | .gtr=>.val true (.bool (decide (x>y)))
 | .geq=>.val true (.bool (decide (x≥y)))
 | _=>.fail
def ax0 (op:BinOp) (x y:List UInt8):Ac:=
 match op with
 | .add=>.val (decide (x.length+y.length<=aad)) (.str (x++y))
 | .eql=>.val true (.bool (x==y))
 | .neq=>.val true (.bool (!(x==y)))
 | .lss=>.val true (.bool (Op.bytesLess x y))
 | .leq=>.val true (.bool (Op.bytesLess x y||x==y))
 | .gtr=>.val true (.bool (!(Op.bytesLess x y||x==y)))
 | .geq=>.val true (.bool (!(Op.bytesLess x y)))
 | _=>.fail
def an7 (op:BinOp) (x y:Bool):Ac:=
 match op with
 | .eql=>.val true (.bool (x==y))
 | .neq=>.val true (.bool (!(x==y)))
 | _=>.fail
def atl (P:Program) (T:TypeId):Bool:=match P.underlying T with | some .bool=>true | _=>false
def ao8 (P:Program) (T:TypeId) (x y:SV):Option Bool:=
 match P.underlying T,x,y with
 | some .bool,.bool a,.bool b=>some (a==b)
 | some (.int _),.int k a,.int k' b=>bif decide (k=k') then some (a==b) else none
 | some .string,.str a,.str b=>some (a==b)
 | _,_,_=>none
def acy (P:Program):List Field->List SV->List SV->Option Bool
 | [],[],[]=>some true
 | f::ds,x::xs,y::ys=>match ao8 P f.type x y,acy P ds xs ys with | some b,some c=>some (bif b then c else false) | _,_=>none
 | _,_,_=>none
def adz (P:Program) (op:BinOp) (T:TypeId) (x y:SV):Ac:=
 match P.underlying T,af4 P T x,af4 P T y with
 | some (.struct ds),some xs,some ys=>
  bif ds.toList.all (fun f=>!(f.name== "_"))&&!(P.stoodInHeld T)&&!(P.eqGuardType P.depth T) then
   match op,acy P ds.toList xs ys with
   | .eql,some b=>.val true (.bool b)
   | .neq,some b=>.val true (.bool (!b))
   | _,_=>.fail
  else .fail
 | _,_,_=>.fail
def ahb (P:Program) (T:TypeId):Bool:=match P.underlying T with | some (.slice _)=>true | _=>false
def ad5 (op:BinOp) (b:Bool):Ac:=
 match op with
 | .eql=>.val true (.bool b)
 | .neq=>.val true (.bool (!b))
 | _=>.fail
def as2 (P:Program) (op:BinOp) (T:TypeId) (x y:SV):Ac:=
 match x,y with
 | .int k a,.int k' b=>
  match op with
  | .shl=>.val (decide (0<=b)) (.int k (k.wrap (a*2^(min b.toNat k.bits))))
  | .shr=>.val (decide (0<=b)) (.int k (a.fdiv (2^(min b.toNat k.bits))))
  | op=>bif decide (k=k') then aw3 op k a b else .fail
 | .str a,.str b=>ax0 op a b
 | .bool a,.bool b=>bif atl P T then an7 op a b else .fail
 | .sln _ _,.nils=>bif ahb P T then ad5 op false else .fail
 | .nils,.nils=>bif ahb P T then ad5 op true else .fail
 | x,y=>adz P op T x y
def ak7 (P:Program) (T:TypeId):Bool:=match P.underlying T with | some (.interface _)=>true | _=>false
def azn (y:Operand):Bool:=match y with | .const .nilIface=>true | _=>false
def afw (op:BinOp) (x:SV):Ac:=
 match op,x with
 | .eql,.eif b=>.val true (.bool b)
 | .neq,.eif b=>.val true (.bool (!b))
 | .eql,.ifc _ _=>.val true (.bool false)
 | .neq,.ifc _ _=>.val true (.bool true)
 | .eql,.raw .nilIface=>.val true (.bool true)
 | .neq,.raw .nilIface=>.val true (.bool false)
 | _,_=>.fail
def alm (P:Program) (op:BinOp) (T:TypeId) (y:Operand) (a b:SV):Ac:=bif azn y&&ak7 P T then (match b with | .eif true=>afw op a | _=>.fail) else as2 P op T a b
def unAc (op:UnOp) (x:SV):Ac:=
 match op,x with
 | .not,.bool b=>.val true (.bool (!b))
 | .neg,.int k n=>.val true (.int k (k.wrap (0-n)))
 | .xor,.int k n=>.val true (.int k (a1w .xor k (if k.signed then -1 else k.max) n))
 | _,_=>.fail
def al8 (s:SV):Option (List PV):=
 match s with
 | .slice _ xs=>some xs
 | .acc _ _ _ xs=>some xs
 | .lit _ xs=>some xs
 | .sln _ xs=>some xs
 | .nils=>some []
 | _=>none
def alu (P:Program) (E:TypeId) (s:SV):Bool:=
 match s with
 | .slice E' _ | .acc _ _ E' _ | .lit E' _ | .sln E' _=>Nat.beq E E'
 | .nils=>true
 | _=>false
def azm (P:Program) (E:TypeId):Bool:=match P.underlying E with | some (.int .u8)=>true | _=>false
def acl (v:PV):UInt8:=UInt8.ofNat v.asInt.toNat
def adb (P:Program) (src E:TypeId):Bool:=(match P.underlying src with | some (.slice E')=>Nat.beq E' E | _=>false)&&azm P E&&Nat.beq (P.cellsOf E) 1
def alr (P:Program) (src dst:TypeId) (x:SV):Ac:=
 bif (P.underlying src).isSome then
  match P.underlying dst,x with
  | some (.int k),.int _ n=>.val true (.int k (k.wrap n))
  | some .string,.str s=>.val true (.str s)
  | some .string,.slice E xs=>bif adb P src E then .val true (.str (xs.map acl)) else .fail
  | some .string,.acc _ _ E xs=>bif adb P src E then .val true (.str (xs.map acl)) else .fail
  | some .string,.lit E xs=>bif adb P src E then .val true (.str (xs.map acl)) else .fail
  | some .string,.int _ n=>.val true (.str (Utf8.encode n).data.toList)
  | _,_=>.fail
 else .fail
def aqo (P:Program) (TB E:TypeId):Bool:=match P.underlying TB with | some (.array n E')=>Nat.beq E E'&&Nat.beq (P.cellsOf TB) (n*P.cellsOf E) | _=>false
def ael (P:Program) (st:List BX) (src dst:TypeId) (x:SV):Ac:=
 match x with
 | .asl k lo n E=>
  match P.underlying dst,st[k]? with
  | some .string,some (.box TB (.data TB' v))=>bif Nat.beq TB TB'&&aqo P TB E&&adb P src E then .val true (.str (((v.parts.drop lo).take n).map acl)) else .fail
  | _,_=>.fail
 | x=>alr P src dst x
def af8 (st:List BX) (k g:Nat) (E:TypeId):Option (List PV):=match st[k]? with | some (.arr E' g' xs)=>(bif Nat.beq g g'&&Nat.beq E E' then some xs else none) | _=>none
def apl (P:Program) (T:TypeId) (st:List BX) (x:SV):Ac:=
 match P.underlying T,x with
 | some .string,.str s=>.val true (.int .i64 s.length)
 | some (.slice _),.slice _ xs=>.val true (.int .i64 xs.length)
 | some (.slice _),.acc _ _ _ xs=>.val true (.int .i64 xs.length)
 | some (.slice _),.lit _ xs=>.val true (.int .i64 xs.length)
 | some (.slice _),.nils=>.val true (.int .i64 0)
 | some (.slice _),.arr k g E=>match af8 st k g E with | some xs=>.val true (.int .i64 xs.length) | none=>.fail
 | some (.map _ _),.map _ _ es=>.val true (.int .i64 es.length)
 | some (.map _ _),.mref k=>match st[k]? with | some (.map _ _ es)=>.val true (.int .i64 es.length) | _=>.fail
 | _,_=>.fail
def adv (st:List BX) (k g:Nat):Bool:=match st[k]? with | some (.arr _ g' _)=>Nat.beq g g' | _=>false
def ana (st:List BX) (k g:Nat):Bool:=match st[k]? with | some (.acc g')=>Nat.beq g g' | _=>false
def a4e (st:List BX) (y:SV):Option (List PV):=match y with | .arr k g E=>af8 st k g E | y=>al8 y
def ayx (P:Program) (E:TypeId) (y:SV):Bool:=match y with | .arr _ _ E'=>Nat.beq E E' | y=>alu P E y
def acw (P:Program) (st:List BX) (T:TypeId) (x y:SV):Ac:=
 match P.underlying T,a4e st y with
 | some (.slice E),some ys=>
  bif ayx P E y&&Nat.ble (P.bytesOf E) 512&&!(Nat.beq (P.bytesOf E) 0)&&!(Nat.beq (P.cellsOf E) 0)&&ab5 P E then
   match x with
   | .nils=>.upd (decide (ys.length<=aao)) (.acc st.length 0 E ys) (st++[.acc 0])
   | .acc k g E' xs=>bif Nat.beq E E'&&ana st k g then
         .upd (decide (xs.length+ys.length<=aao)) (.acc k (g+1) E (xs++ys)) (st.set k (.acc (g+1))) else .fail
   | .lit E' []=>bif Nat.beq E E' then .upd (decide (ys.length<=aao)) (.arr st.length 1 E) (st++[.arr E 1 ys]) else .fail
   | .lit E' (x::xs)=>bif Nat.beq E E' then .upd (decide ((x::xs).length+ys.length<=aao)) (.slice E (x::xs++ys)) st else .fail
   | .arr k g E'=>bif Nat.beq E E' then (match af8 st k g E with | some xs=>.upd (decide (xs.length+ys.length<=aao)) (.arr k (g+1) E) (st.set k (.arr E (g+1) (xs++ys))) | none=>.fail) else .fail
   | _=>.fail
  else .fail
 | _,_=>.fail
def ag9 (mx:Bool) (a:Int):List SV->Option Int
 | []=>some a
 | .int _ b::r=>ag9 mx (bif mx then (if b>a then b else a) else (if b<a then b else a)) r
 | _=>none
def adj (mx:Bool):List SV->Ac
 | .int k a::r=>match ag9 mx a r with | some n=>.val true (.int k n) | none=>.fail
 | _=>.fail
def aa1 (P:Program) (E:TypeId):Bool:=!(Nat.beq (P.cellsOf E) 0)&&(P.underlying E).isSome&&(aaj P E||Nat.beq (P.cellsOf E) 1)
def ad1 (fs:List SV):List (Nat×SV)->Option (List SV)
 | []=>some fs
 | (i,v)::r=>bif Nat.blt i fs.length then ad1 (fs.set i v) r else none
def ala (P:Program) (ds:Array Field) (p:Nat×SV):Bool:=match ds[p.1]? with | some f=>af9 P f.type p.2 | none=>false
def aen (P:Program) (n:Nat) (E:TypeId) (p:Nat×SV):Bool:=Nat.blt p.1 n&&isOf P E p.2
def ac5 (fs:List PV):List (Nat×SV)->List PV
 | []=>fs
 | (i,v)::r=>ac5 (fs.set i (toPV v)) r
def ah2 (P:Program) (T:TypeId) (parts:List (Nat×SV)):Ac:=
 match P.underlying T,abd P 12 T with
 | some (.array n E),.data _ (.agg zs)=>
  bif ab5 P T&&aa1 P E&&Nat.beq (P.cellsOf T) (n*P.cellsOf E)&&parts.all (aen P n E) then .val true (.data T (.agg (ac5 zs parts))) else .fail
 | some (.struct ds),.agg _ zs=>
  bif ab5 P T&&abz P T&&parts.all (ala P ds) then
   match ad1 zs parts with
   | some fs=>.val true (.agg T fs)
   | none=>.fail
  else .fail
 | _,_=>.fail
def ach (P:Program) (T:TypeId) (n:Nat) (parts:List (Nat×SV)):Ac:=
 match P.underlying T with
 | some (.slice E)=>
  bif ab5 P E&&isOf P E (abd P 12 E)&&!(Nat.beq (P.cellsOf E) 0)&&Nat.ble (n*P.cellsOf E) 4096&&parts.all (aen P n E) then
   .val true (.lit E (ac5 (List.replicate n (toPV (abd P 12 E))) parts)) else .fail
 | _=>.fail
def aep (P:Program) (T:TypeId) (st:List BX) (a:SV):Ac:=
 match a with
 | .pto T' v=>bif Nat.beq T T'&&(P.underlying T).isSome then .val true (ofPV P T v) else .fail
 | .ref k path T'=>
  bif Nat.beq T T'&&(P.underlying T).isSome then
   match st[k]? with
   | some (.box TB s)=>bif aaj P T||Nat.beq (P.cellsOf T) 1 then (match agn P TB s path with | some x=>.val true x | none=>.fail) else .fail
   | _=>.fail
  else .fail
 | .eref k i E=>
  bif Nat.beq T E&&aa1 P E then
   match st[k]? with
   | some (.box TB (.data TB' v))=>bif Nat.beq TB TB'&&aqo P TB E then .val true (ofPV P E (v.fld i)) else .fail
   | _=>.fail
  else .fail
 | .aref k g i E path T'=>
  bif Nat.beq T T'&&aa1 P E&&aa1 P T then
   match af8 st k g E with
   | some xs=>(match agn P E (ofPV P E (xs.getD i .bad)) path with | some x=>.val true x | none=>.fail)
   | none=>.fail
  else .fail
 | _=>.fail
def adc (P:Program) (T:TypeId) (st:List BX) (a x:SV):Ac:=
 match a with
 | .ref k path T'=>
  bif Nat.beq T T'&&af9 P T x&&!(Nat.beq (P.cellsOf T) 0) then
   match st[k]? with
   | some (.box TB s)=>match agy P TB s path x with | some s'=>.upd true .undef (st.set k (.box TB s')) | none=>.fail
   | _=>.fail
  else .fail
 | .eref k i E=>
  bif Nat.beq T E&&isOf P E x&&aa1 P E then
   match st[k]? with
   | some (.box TB (.data TB' v))=>bif Nat.beq TB TB'&&aqo P TB E then .upd true .undef (st.set k (.box TB (.data TB (.agg (v.parts.set i (toPV x)))))) else .fail
   | _=>.fail
  else .fail
 | .aref k g i E path T'=>
  bif Nat.beq T T'&&aa1 P E&&af9 P T x&&!(Nat.beq (P.cellsOf T) 0) then
   match af8 st k g E with
   | some xs=>
    match agy P E (ofPV P E (xs.getD i .bad)) path x with
    | some y=>bif isOf P E y then .upd true .undef (st.set k (.arr E g (xs.set i (toPV y)))) else .fail
    | none=>.fail
   | none=>.fail
  else .fail
 | _=>.fail
mutual
def alj:SV->List Nat
 | .arr k _ _=>[k]
 | .mref k=>[k]
 | .agg _ fs=>ao1 fs
 | _=>[]
def ao1:List SV->List Nat
 | []=>[]
 | s::r=>alj s++ao1 r
end
mutual
def frzS (st:List BX):SV->SV
 | .arr k g E=>(match af8 st k g E with | some xs=>.slice E xs | none=>.undef)
 | .mref k=>(match st[k]? with | some (.map K E es)=>.map K E es | _=>.undef)
 | .agg T fs=>.agg T (frzL st fs)
 | s=>s
def frzL (st:List BX):List SV->List SV
 | []=>[]
 | s::r=>frzS st s::frzL st r
end
def ads (P:Program) (T:TypeId) (st:List BX) (a x:SV):Ac:=
 match a with
 | .aref k _ _ _ _ _=>
  match alj x with
  | [j]=>(match st[j]? with | some (.arr E g _)=>(bif Nat.beq j k then .fail else adc P T (st.set j (.arr E (g+1) [])) a (frzS st x)) | _=>.fail)
  | _=>adc P T st a x
 | _=>adc P T st a x
def a4a (P:Program):Nat->TypeId->Bool
 | 0,_=>false
 | n+1,T=>
  match P.underlying T with
  | some (.struct fs)=>
   match fs.toList with
   | [f]=>Nat.beq f.offset 0&&a4a P n f.type
   | [f,g]=>(match P.underlying f.type with | some (.pointer e)=>Nat.beq e T | _=>false)&&(match P.underlying g.type with | some (.slice e)=>azm P e&&Nat.beq (P.cellsOf e) 1 | _=>false)&&Nat.beq f.offset 0&&Nat.beq g.offset 1
   | _=>false
  | _=>false
def as3 (P:Program) (T:TypeId):Bool:=
 match (P.info? T).bind (fun i=>i.zero) with
 | some (Value.agg cs)=>(match cs.toList with | [.pointer none,.slice none 0 0]=>true | _=>false)
 | _=>false
def ae9 (P:Program) (T:TypeId):Bool:=a4a P 3 T&&as3 P T
def aci (P:Program) (st:List BX) (S:TypeId) (i:Nat) (a:SV):Ac:=
 match P.underlying S with
 | some (.struct fs)=>
  match fs[i]? with
  | some f=>
   bif Nat.beq (P.cellsOf f.type) 0 then .fail else
   match a with
   | .pto T v=>bif Nat.beq S T then .val true (.pto f.type (v.fld i)) else .fail
   | .ref k path T=>bif Nat.beq S T then .val true (.ref k (path++[i]) f.type) else .fail
   | .bref k T=>bif Nat.beq S T&&Nat.beq f.offset 0 then .val true (.bref k f.type) else .fail
   | .aref k g j E path T=>bif Nat.beq S T&&adv st k g then .val true (.aref k g j E (path++[i]) f.type) else .fail
   | _=>.fail
  | none=>.fail
 | _=>.fail
def ah5 (P:Program) (S:TypeId) (i:Nat) (a:SV):Ac:=
 match P.underlying S with
 | some (.struct fs)=>
  match fs[i]? with
  | some f=>
   bif abz P S&&aa1 P f.type then
    match a with
    | .data T v=>bif Nat.beq S T then .val true (ofPV P f.type (v.fld i)) else .fail
    | .agg T vs=>bif Nat.beq S T then (match vs[i]? with | some v=>.val true v | none=>.fail) else .fail
    | _=>.fail
   else .fail
  | none=>.fail
 | _=>.fail
def aaa (i:Int) (n:Nat):Bool:=decide (0<=i/\i<n)
def alh (P:Program) (T:TypeId) (x i:SV):Option (Bool×SV):=
 match P.underlying T,x,i with
 | some (.array n E),.ref k [] T',.int _ i=>bif Nat.beq T T'&&aa1 P E then some (aaa i n,.eref k i.toNat E) else none
 | _,_,_=>none
def afy (P:Program) (T:TypeId) (st:List BX) (x i:SV):Option (Bool×SV):=
 match P.underlying T,x,i with
 | some (.slice E),.arr k g E',.int _ i=>(match af8 st k g E with | some xs=>(bif Nat.beq E E'&&aa1 P E then some (aaa i xs.length,.aref k g i.toNat E [] E) else none) | none=>none)
 | _,_,_=>none
def acj (P:Program) (T:TypeId) (st:List BX) (x i:SV):Ac:=
 match alh P T x i with
 | some r=>.val r.1 r.2
 | none=>
 match afy P T st x i with
 | some r=>.val r.1 r.2
 | none=>
 match P.underlying T,al8 x,i with
 | some (.slice E),some xs,.int _ i=>bif alu P E x&&!(Nat.beq (P.cellsOf E) 0) then .val (aaa i xs.length) (.pto E (xs.getD i.toNat .bad)) else .fail
 | _,_,_=>.fail
def ah7 (P:Program) (T:TypeId) (x i:SV):Ac:=
 match P.underlying T,x,i with
 | some .string,.str s,.int _ i=>.val (aaa i s.length) (.int .u8 (s.getD i.toNat 0).toNat)
 | some (.array n E),.data T' v,.int _ i=>bif Nat.beq T T'&&aa1 P E&&Nat.beq (P.cellsOf T) (n*P.cellsOf E) then .val (aaa i n) (ofPV P E (v.fld i.toNat)) else .fail
 | _,_,_=>.fail
def bnd (x:Option SV) (dflt:Int):Option Int:=
 match x with
 | none=>some dflt
 | some (.int _ n)=>some n
 | some _=>none
def ak4 (P:Program) (T:TypeId) (x:SV) (lo hi:Option SV):Option (Bool×SV):=
 match P.underlying T,x with
 | some (.array n E),.ref k [] T'=>
  match bnd lo 0,bnd hi n with
  | some l,some h=>bif Nat.beq T T'&&aa1 P E then some (decide (0<=l/\l<n/\l<=h/\h<=n),.asl k l.toNat (h.toNat-l.toNat) E) else none
  | _,_=>none
 | _,_=>none
def aii (P:Program) (T:TypeId) (x:SV) (lo hi mx:Option SV):Ac:=
 match mx with
 | some _=>.fail
 | none=>
  match ak4 P T x lo hi with
  | some r=>.val r.1 r.2
  | none=>
  match P.underlying T,x with
  | some .string,.str s=>
   match bnd lo 0,bnd hi s.length with
   | some l,some h=>.val (decide (0<=l/\l<=h/\h<=s.length)) (.str ((s.take h.toNat).drop l.toNat))
   | _,_=>.fail
  | some (.slice E),_=>
   match al8 x with
   | some xs=>
    match bnd lo 0,bnd hi xs.length with
    | some l,some h=>bif alu P E x&&!(Nat.beq (P.cellsOf E) 0) then .val (decide (0<=l/\l<=h/\h<=xs.length)) (.slice E ((xs.take h.toNat).drop l.toNat)) else .fail
    | _,_=>.fail
   | none=>.fail
  | _,_=>.fail
def adt (a b:PV):Bool:=
 match a,b with
 | .str x,.str y=>x==y
 | .int x,.int y=>x==y
 | .bool x,.bool y=>x==y
 | _,_=>false
def al4:List PV->List PV->Bool
 | [],[]=>true
 | x::xs,y::ys=>bif adt x y then al4 xs ys else false
 | _,_=>false
def ai0 (a b:PV):Bool:=
 match a,b with
 | .agg xs,.agg ys=>al4 xs ys
 | a,b=>adt a b
def PV.mget (es:List (PV×PV)) (k:PV):Option PV:=(es.find? fun e=>ai0 k e.1).map (·.2)
def PV.mhas (es:List (PV×PV)) (k:PV):Bool:=(PV.mget es k).isSome
def PV.mput:List (PV×PV)->PV->PV->List (PV×PV)
 | [],k,v=>[(k,v)]
 | e::r,k,v=>bif ai0 k e.1 then (e.1,v)::r else e::PV.mput r k v
def PV.midx:List (PV×PV)->PV->Nat
 | [],_=>0
 | e::r,k=>bif ai0 k e.1 then 0 else PV.midx r k+1
def PV.mset (es:List (PV×PV)) (n:Nat) (v:PV):List (PV×PV):=match es[n]? with | some e=>es.set n (e.1,v) | none=>es
def asf (P:Program) (K:TypeId):Bool:=
 match P.underlying K with
 | some .string | some (.int _) | some .bool=>true
 | _=>false
def keyT (P:Program) (K:TypeId):Bool:=
 match P.underlying K with
 | some .string | some (.int _) | some .bool=>true
 | some (.struct ds)=>abz P K&&ds.toList.all (fun f=>asf P f.type&&!(f.name== "_"))&&!(P.stoodInHeld K)
 | _=>false
def ah9 (P:Program) (E:TypeId) (es:List (PV×PV)) (k:PV) (ok:Bool):SV:=
 let v:=ofPV P E ((PV.mget es k).getD (toPV (abd P 12 E)))
 bif ok then .tup [v,.bool (PV.mhas es k)] else v
def acm (P:Program) (T:TypeId) (st:List BX) (m k:SV) (ok:Bool):Ac:=
 match P.underlying T with
 | some (.map K E)=>
  bif keyT P K&&isOf P K k&&ab5 P E&&isOf P E (abd P 12 E) then
   match m with
   | .map K' E' es=>bif Nat.beq K K'&&Nat.beq E E' then .val true (ah9 P E es (toPV k) ok) else .fail
   | .mref j=>match st[j]? with | some (.map K' E' es)=>bif Nat.beq K K'&&Nat.beq E E' then .val true (ah9 P E es (toPV k) ok) else .fail | _=>.fail
   | _=>.fail
  else .fail
 | _=>.fail
def abp (P:Program) (T:TypeId) (st:List BX) (m k v:SV):Ac:=
 match P.underlying T with
 | some (.map K E)=>
  bif keyT P K&&isOf P K k&&isOf P E v then
   match m with
   | .mref j=>match st[j]? with | some (.map K' E' es)=>bif Nat.beq K K'&&Nat.beq E E' then .upd true .undef (st.set j (.map K E (PV.mput es (toPV k) (toPV v)))) else .fail | _=>.fail
   | _=>.fail
  else .fail
 | _=>.fail
def ab4 (P:Program) (T:TypeId) (st:List BX) (m k:SV):Ac:=
 match P.underlying T with
 | some (.map K E)=>
  bif keyT P K&&isOf P K k&&ab5 P E&&isOf P E (abd P 12 E) then
   match m with
   | .mref j=>match st[j]? with | some (.map K' E' es)=>bif Nat.beq K K'&&Nat.beq E E' then .upd true (.tup [.undef,.int .i64 ((PV.midx es (toPV k):Nat):Int)]) (st.set j (.map K E (PV.mput es (toPV k) ((PV.mget es (toPV k)).getD (toPV (abd P 12 E)))))) else .fail | _=>.fail
   | _=>.fail
  else .fail
 | _=>.fail
def abu (P:Program) (T:TypeId) (st:List BX) (m s v:SV):Ac:=
 match P.underlying T with
 | some (.map K E)=>
  bif isOf P E v then
   match m,s with
   | .mref j,.int .i64 n=>match st[j]? with | some (.map K' E' es)=>bif Nat.beq K K'&&Nat.beq E E' then .upd (aaa n es.length) .undef (st.set j (.map K E (PV.mset es n.toNat (toPV v)))) else .fail | _=>.fail
   | _,_=>.fail
  else .fail
 | _=>.fail
def aic (P:Program) (T:TypeId) (st:List BX) (x:SV):Ac:=
 match P.underlying T,x with
 | some .string,.str s=>.upd true (.iref st.length) (st++[.iter s 0])
 | some (.map K E),.map K' E' es=>bif Nat.beq K K'&&Nat.beq E E' then .upd true (.mitr st.length) (st++[.mit K E none es]) else .fail
 | _,_=>.fail
def amf (st:List BX) (x:SV) (isString:Bool):Ac:=
 match x,isString with
 | .iref k,true=>
  match st[k]? with
  | some (.iter s p)=>.upd true (.nx (decide (p<s.length)) p (Utf8.decode ⟨s.toArray⟩ p).1) (st.set k (.iter s (bif decide (p<s.length) then p+(Utf8.decode ⟨s.toArray⟩ p).2 else p)))
  | _=>.fail
 | .mitr k,false=>
  match st[k]? with
  | some (.mit _ _ _ es)=>.upd es.isEmpty (.tup [.bool false]) st
  | _=>.fail
 | _,_=>.fail
def aj4 (P:Program) (st:List BX) (x:SV):Ac:=
 match x with
 | .mitr k=>(match st[k]? with | some (.mit K E (some e) _)=>.val true (.tup [ofPV P K e.1,ofPV P E e.2]) | _=>.fail)
 | _=>.fail
def agl (t:SV) (i:Nat):Ac:=
 match t with
 | .tup vs=>(match vs[i]? with | some v=>.val true v | none=>.fail)
 | .nx b p c=>(match i with | 0=>.val true (.bool b) | 1=>.val b (.int .i64 p) | 2=>.val b (.int .i32 c) | _=>.fail)
 | _=>.fail
def aht (c:Call) (ρ:Operand->SV) (P:Program) (st:List BX):Ac:=
 match c.callee with
 | .value (.func f)=>.call f (c.args.toList.map ρ)
 | .value x=>match ρ x with | .fn f n caps=>.call f (caps.take n++(c.args.toList.map ρ++caps.drop n)) | _=>.fail
 | .builtin .len=>match c.args.toList,c.argTypes.toList with | [x],[T]=>apl P T st (ρ x) | _,_=>.fail
 | .builtin .append=>match c.args.toList,c.argTypes.toList with | [x,y],[T,T']=>bif Nat.beq T T' then acw P st T (ρ x) (ρ y) else .fail | _,_=>.fail
 | .builtin .min=>adj false (c.args.toList.map ρ)
 | .builtin .max=>adj true (c.args.toList.map ρ)
 | _=>.fail
def ad4 (fn:Fn) (first cs:List SV):Ac:=
 match fn with
 | .func f=>.val true (.fn f first.length (first++cs))
 | _=>.fail
def adk (P:Program) (T:TypeId) (r:Option Operand) (st:List BX):Ac:=
 match P.underlying T,r with
 | some (.map K E),none=>.upd true (.mref st.length) (st++[.map K E []])
 | _,_=>.fail
def agd (P:Program) (T:TypeId) (st:List BX):Ac:=
 bif ae9 P T then .upd true (.bref st.length T) (st++[.bld T []]) else bif ab5 P T then .upd true (.ref st.length [] T) (st++[.box T (abd P 12 T)]) else .fail
def aiy (P:Program):Nat->TypeId->SV->Bool
 | 0,_,_=>false
 | n+1,T,s=>
  match P.underlying T,s with
  | some (.struct ds),.agg T' fs=>
   Nat.beq T T'&&(match ds.toList,fs with
   | [f],[x]=>Nat.beq f.offset 0&&Nat.beq (P.cellsOf f.type) (P.cellsOf T)&&aaj P f.type&&aiy P n f.type x
   | [f,g],[.raw (.pointer none),.nils]=>!(aaj P f.type)&&!(aaj P g.type)&&Nat.beq f.offset 0&&Nat.beq g.offset 1&&Nat.beq (P.cellsOf f.type) 1&&Nat.beq (P.cellsOf g.type) 1&&Nat.beq (P.cellsOf T) 2
   | _,_=>false)
  | _,_=>false
def aqq (P:Program) (T:TypeId) (s:SV) (st:List BX):Ac:=
 bif ae9 P T&&aiy P 3 T s then .upd true (.bref st.length T) (st++[.bld T []]) else bif af9 P T s then .upd true (.ref st.length [] T) (st++[.box T s]) else .fail
def ac0 (P:Program) (T:TypeId) (len cap:SV) (st:List BX):Ac:=
 match P.underlying T,len,cap with
 | some (.slice E),.int .i64 0,.int .i64 c=>
  bif ab5 P E&&!(Nat.beq (P.cellsOf E) 0)&&Nat.ble (P.bytesOf E) 512 then .upd (decide (0<=c/\c<=aao)) (.acc st.length 0 E []) (st++[.acc 0]) else .fail
 | _,_,_=>.fail
def agp (P:Program) (T:TypeId) (s:SV):Ac:=
 match P.underlying T with
 | none=>.fail
 | some (.interface _)=>.fail
 | some _=>.val true (.ifc T s)
def amj (s:SV):Ac:=
 match s with
 | .ifc T x=>.pan (.ifc T x)
 | _=>.fail
def aec (P:Program) (T:TypeId) (len cap:SV) (st:List BX):Ac:=
 match P.underlying T,len,cap with
 | some (.slice E),.int .i64 n,.int .i64 c=>
  bif ab5 P E&&isOf P E (abd P 12 E)&&!(Nat.beq (P.cellsOf E) 0)&&Nat.ble (P.bytesOf E) 512 then
   .upd (decide (0<=n/\n<=c/\c<=aao)) (.arr st.length 0 E) (st++[.arr E 0 (List.replicate n.toNat (toPV (abd P 12 E)))]) else .fail
 | _,_,_=>.fail
def azp (n:Operand):Bool:=match n with | .const (.int .i64 0)=>true | _=>false
def ac (P:Program) (op:Op) (ρ ρt ρf:Operand->SV) (st:List BX):Ac:=
 match op with
 | .move x | .assign x=>.val true (ρ x)
 | .pick c x y=>
  match ρ c,ρt x,ρf y with
  | .bool b,.bool p,.bool q=>.val true (.bool (bif b then p else q))
  | _,_,_=>.fail
 | .alloc T=>agd P T st
 | .box T x=>aqq P T (ρ x) st
 | .makeSlice T n c=>bif azp n then ac0 P T (ρ n) (ρ c) st else aec P T (ρ n) (ρ c) st
 | .build T ps=>ah2 P T (ps.toList.map fun (i,x)=>(i,ρ x))
 | .buildSlice T n ps=>ach P T n (ps.toList.map fun (i,x)=>(i,ρ x))
 | .load T a=>aep P T st (ρ a)
 | .store T a x=>ads P T st (ρ a) (ρ x)
 | .nilCheck x=>match ρ x with | .ref k p T=>.val true (.ref k p T) | .pto T v=>.val true (.pto T v) | .fn f n cs=>.val true (.fn f n cs) | .bref k T=>.val true (.bref k T) | .aref k g i E p T=>(bif adv st k g then .val true (.aref k g i E p T) else .fail) | _=>.fail
 | .binOp b T x y _=>alm P b T y (ρ x) (ρ y)
 | .unOp u _ x=>unAc u (ρ x)
 | .convert s d x=>ael P st s d (ρ x)
 | .makeFunc fn first cs=>ad4 fn (first.toList.map ρ) (cs.toList.map ρ)
 | .makeMap T r=>adk P T r st
 | .slice T x lo hi mx=>aii P T (ρ x) (lo.map ρ) (hi.map ρ) (mx.map ρ)
 | .fieldAddr S x i=>aci P st S i (ρ x)
 | .field S x i=>ah5 P S i (ρ x)
 | .indexAddr T x i=>acj P T st (ρ x) (ρ i)
 | .index T x i=>ah7 P T (ρ x) (ρ i)
 | .lookup T m k ok=>acm P T st (ρ m) (ρ k) ok
 | .insert T m k v | .mapUpdate T m k v=>abp P T st (ρ m) (ρ k) (ρ v)
 | .mapEntry T m k=>ab4 P T st (ρ m) (ρ k)
 | .entryStore T m s v=>abu P T st (ρ m) (ρ s) (ρ v)
 | .extract t i=>agl (ρ t) i
 | .range T x=>aic P T st (ρ x)
 | .next x b=>amf st (ρ x) b
 | .entry x=>aj4 P st (ρ x)
 | .call c=>aht c ρ P st
 | .makeInterface T x=>agp P T (ρ x)
 | .panic x=>amj (ρ x)
 | _=>.fail
def ain (P:Program) (T:Option TypeId) (s:SV):Option SV:=
 match s with
 | .bool _ | .int _ _ | .str _ | .slice _ _ | .data _ _ | .map _ _ _ | .raw _ | .pto _ _ | .eif _=>some s
 | .acc _ _ E xs=>some (.slice E xs)
 | .lit E xs=>some (.slice E xs)
 | .sln E xs=>some (.slice E xs)
 | .nils=>match T with | some T=>(match P.underlying T with | some (.slice E)=>some (.slice E []) | _=>none) | none=>none
 | .agg T' _=>bif isOf P T' s then some (.data T' (toPV s)) else none
 | _=>none
mutual
def al6 (acc:Bool) (st:List BX):SV->List Nat
 | .ref k _ _=>[k]
 | .bref k _=>[k]
 | .mref k=>[k]
 | .arr k _ _=>[k]
 | .aref k _ _ _ _ _=>[k]
 | .eref k _ _=>[k]
 | .asl k _ _ _=>[k]
 | .acc k g _ _=>bif acc&&ana st k g then [k] else []
 | .fn _ _ caps=>afd acc st caps
 | .agg _ fs=>afd acc st fs
 | .ifc _ s=>al6 acc st s
 | .pan s=>al6 acc st s
 | _=>[]
def afd (acc:Bool) (st:List BX):List SV->List Nat
 | []=>[]
 | s::r=>al6 acc st s++afd acc st r
end
def az2 (st:List BX) (k:Nat):List Nat:=match st[k]? with | some (.box _ s)=>al6 true st s | _=>[]
def aez (ks:List Nat):List Nat->List Nat
 | []=>ks
 | k::r=>aez (bif ks.any (Nat.beq k) then ks else ks++[k]) r
def at9 (st:List BX):Nat->List Nat->List Nat
 | 0,ks=>ks
 | n+1,ks=>at9 st n (aez ks (ks.flatMap (az2 st)))
def aap (st:List BX) (args:List SV):List Nat:=at9 st 4 (aez [] (afd false st args))
def idx (k:Nat):List Nat->Nat
 | []=>0
 | x::r=>bif Nat.beq k x then 0 else idx k r+1
def ab8 (ks:List Nat) (k:Nat):Option Nat:=bif ks.any (Nat.beq k) then some (idx k ks) else none
mutual
def renS (st:List BX) (ρ:Nat->Option Nat) (γ:Nat->Nat):SV->Option SV
 | .acc k g E xs=>some (match ρ k with | some k'=>(bif ana st k g then .acc k' (γ k) E xs else .slice E xs) | none=>.slice E xs)
 | .ref k p T=>match ρ k with | some k'=>some (.ref k' p T) | none=>none
 | .bref k T=>match ρ k with | some k'=>some (.bref k' T) | none=>none
 | .mref k=>match ρ k with | some k'=>some (.mref k') | none=>none
 | .arr k g E=>match ρ k with | some k'=>(bif adv st k g then some (.arr k' (γ k) E) else none) | none=>none
 | .aref k g i E p T=>match ρ k with | some k'=>(bif adv st k g then some (.aref k' (γ k) i E p T) else none) | none=>none
 | .eref k i E=>match ρ k with | some k'=>some (.eref k' i E) | none=>none
 | .asl k lo n E=>match ρ k with | some k'=>some (.asl k' lo n E) | none=>none
 | .fn f n caps=>match renL st ρ γ caps with | some cs=>some (.fn f n cs) | none=>none
 | .agg T fs=>match renL st ρ γ fs with | some gs=>some (.agg T gs) | none=>none
 | .lit E xs=>some (.slice E xs)
 | .sln E xs=>some (.slice E xs)
 | .ifc T s=>match renS st ρ γ s with | some x=>some (.ifc T x) | none=>none
 | .pan s=>match renS st ρ γ s with | some x=>some (.pan x) | none=>none
 | .iref _=>none
 | .mitr _=>none
 | .gd _ _ _=>none
 | .nx _ _ _=>none
 | .tup _=>none
 | s=>some s
def renL (st:List BX) (ρ:Nat->Option Nat) (γ:Nat->Nat):List SV->Option (List SV)
 | []=>some []
 | s::r=>match renS st ρ γ s,renL st ρ γ r with | some x,some q=>some (x::q) | _,_=>none
end
def agw (st:List BX) (ρ:Nat->Option Nat) (γ:Nat->Nat) (k:Nat):BX->Option BX
 | .box T s=>match renS st ρ γ s with | some x=>some (.box T x) | none=>none
 | .acc _=>some (.acc (γ k))
 | .arr E _ xs=>some (.arr E (γ k) xs)
 | .iter _ _=>none
 | .mit _ _ _ _=>none
 | b=>some b
def a01 (st:List BX) (ρ:Nat->Option Nat) (γ:Nat->Nat):Nat->List BX->Option (List BX)
 | _,[]=>some []
 | k,b::r=>match agw st ρ γ k b,a01 st ρ γ (k+1) r with | some x,some q=>some (x::q) | _,_=>none
def agb (st:List BX) (ρ:Nat->Option Nat) (γ:Nat->Nat):List Nat->Option (List BX)
 | []=>some []
 | k::ks=>
  match st[k]? with
  | some b=>match agw st ρ γ k b,agb st ρ γ ks with | some x,some q=>some (x::q) | _,_=>none
  | none=>none
def acg (n:Nat) (ks:List Nat) (j:Nat):Option Nat:=match ks[j]? with | some k=>some k | none=>some (n+(j-ks.length))
def afq (st:List BX) (ks:List Nat) (sub:List BX) (j:Nat):Nat:=
 match ks[j]? with
 | some k=>(match st[k]? with | some (.acc g)=>g+1 | some (.arr _ g _)=>(match sub[j]? with | some (.arr _ g' _)=>(bif Nat.beq g' 0 then g else g+1) | _=>g+1) | _=>0)
 | none=>0
def ah4 (st:List BX) (k:Nat):Nat:=match st[k]? with | some (.arr _ g _)=>(bif Nat.beq g 0 then 0 else 1) | _=>0
def ad8 (st:List BX) (ks:List Nat) (rs:List SV) (sub:List BX):Option (List SV×List BX):=
 match renL sub (acg st.length ks) (afq st ks sub) rs,a01 sub (acg st.length ks) (afq st ks sub) 0 sub with
 | some rs',some bs=>some (rs',bs)
 | _,_=>none
def aev (rs:List SV) (sub:List BX):Option (List SV):=match sub with | []=>renL [] (fun _=>none) (fun _=>0) rs | _=>none
def abi:List Nat->List BX->List BX->List BX
 | k::ks,b::bs,st=>abi ks bs (st.set k b)
 | [],bs,st=>st++bs
 | _::_,[],st=>st
def adf:List SV->SV
 | [x]=>x
 | xs=>.tup xs
def fork {R:Type} (rs:List SV) (k:Option R) (x:SV->Option R):Option R:=
 match rs with
 | [.pan s]=>x s
 | _=>k
inductive LEx where
 | exit (i:Nat)
 | ret
 | pan
structure Cfg where
 P:Program
 own:Bool
 n:Nat
 np:Nat
 call:(R:Type)->Bool->FuncId->List SV->List BX->(List SV->List BX->Option R)->Option R
 lam:(R:Type)->Nat->Env->List BX->(LEx->Env->List BX->Option R)->Option R
 frz:FuncId->Bool:=fun _=>false
def akz (n:Nat) (d:Option Nat):Bool:=match d with | some d=>Nat.blt d n | none=>true
def argTs (op:Op):List TypeId:=match op with | .call c=>c.argTypes.toList | _=>[]
def dsts (ops:List Oper):List Nat:=ops.filterMap (·.dst)
def a04 {R:Type} (C:Cfg) (ops:Array Oper) (o:Oper) (rest:List Oper) (e:Env) (st:List BX) (K:Env->List BX->Option R) (X:SV->List BX->Option R):Option R:=
 bif akz C.n o.dst then
  match o.guard with
  | none=>
   match ac C.P o.op (opd e []) (match o.op with | .pick (.tmp t) _ _=>opd e [(t,true)] | _=>opd e []) (match o.op with | .pick (.tmp t) _ _=>opd e [(t,false)] | _=>opd e []) st with
   | .fail=>none
   | .val c v=>bif c then K (put e o.dst v) st else none
   | .upd c v st'=>bif c then K (put e o.dst v) st' else none
   | .pan v=>X v st
   | .call f args=>
    bif C.frz f&&Nat.beq C.np 0 then
     match renL st (fun _=>none) (fun _=>0) (frzL st args) with
     | some as1=>(match renL [] (ab8 []) (fun _=>0) as1 with | some as=>(C.call R true f as [] fun rs sub'=>(match aev rs sub' with | some rs'=>fork rs' (K (put (fun _=>.undef) o.dst (adf rs')) []) (fun _=>none) | none=>none)) | none=>none)
     | none=>none
    else
    match renL st (ab8 (aap st args)) (fun _=>0) args,agb st (ab8 (aap st args)) (fun _=>0) (aap st args) with
    | some as,some sub=>C.call R true f as sub fun rs sub'=>match ad8 st (aap st args) rs sub' with | some (rs',bs)=>fork rs' (K (put e o.dst (adf rs')) (abi (aap st args) bs st)) (fun s=>X s (abi (aap st args) bs st)) | none=>none
    | _,_=>none
  | some (j,want)=>
   match (ops[j]?).bind (·.dst) with
   | none=>none
   | some t=>
    bif (dsts (o::rest)).any (Nat.beq t) then none else
    match gval e 8 t want with
    | none=>none
    | some b=>
     match ac C.P o.op (opd e [(t,want)]) (match o.op with | .pick (.tmp u) _ _=>opd e [(u,true),(t,want)] | _=>opd e []) (match o.op with | .pick (.tmp u) _ _=>opd e [(u,false),(t,want)] | _=>opd e []) st with
     | .val c v=>bif imp b c then K (put e o.dst (.gd t want v)) st else none
     | .call f args=>
          match aap st args,renL st (ab8 []) (fun _=>0) args with
          | [],some as=>C.call R b f as [] fun rs sub'=>match aev rs sub' with | some rs'=>fork rs' (K (put e o.dst (.gd t want (adf rs'))) st) (fun _=>none) | none=>none
          | _,_=>
           bif b then
            match renL st (ab8 (aap st args)) (fun _=>0) args,agb st (ab8 (aap st args)) (fun _=>0) (aap st args) with
            | some as,some sub=>C.call R true f as sub fun rs sub'=>match ad8 st (aap st args) rs sub' with | some (rs',bs)=>fork rs' (K (put e o.dst (.gd t want (adf rs'))) (abi (aap st args) bs st)) (fun s=>X s (abi (aap st args) bs st)) | none=>none
            | _,_=>none
           else K (put e o.dst (.gd t want (abd C.P 12 o.type))) st
     | _=>none
 else none
def ah0 {R:Type} (C:Cfg) (ops:Array Oper):List Oper->Env->List BX->(Env->List BX->Option R)->(SV->List BX->Option R)->Option R
 | [],e,st,K,_=>K e st
 | o::r,e,st,K,X=>a04 C ops o r e st (fun e st=>ah0 C ops r e st K X) X
def sweep (e:Env):Env:=fun t=>match e t with | .gd _ _ _=>.undef | v=>v
def opV {R:Type} (C:Cfg) (ops:Array Oper) (o:Oper) (e:Env) (st:List BX) (K:SV->List BX->Option R) (X:SV->List BX->Option R):Option R:=
 match o.guard with
 | none=>
  match ac C.P o.op (opd e []) (match o.op with | .pick (.tmp t) _ _=>opd e [(t,true)] | _=>opd e []) (match o.op with | .pick (.tmp t) _ _=>opd e [(t,false)] | _=>opd e []) st with
  | .fail=>none
  | .val c v=>bif c then K v st else none
  | .upd c v st'=>bif c then K v st' else none
  | .pan _=>none
  | .call f args=>
   match renL st (ab8 (aap st args)) (fun _=>0) args,agb st (ab8 (aap st args)) (fun _=>0) (aap st args) with
   | some as,some sub=>C.call R true f as sub fun rs sub'=>match ad8 st (aap st args) rs sub' with | some (rs',bs)=>fork rs' (K (adf rs') (abi (aap st args) bs st)) (fun s=>X s (abi (aap st args) bs st)) | none=>none
   | _,_=>none
 | some (j,want)=>
  match (ops[j]?).bind (·.dst) with
  | none=>none
  | some t=>
   match gval e 8 t want with
   | none=>none
   | some b=>
    match ac C.P o.op (opd e [(t,want)]) (match o.op with | .pick (.tmp u) _ _=>opd e [(u,true),(t,want)] | _=>opd e []) (match o.op with | .pick (.tmp u) _ _=>opd e [(u,false),(t,want)] | _=>opd e []) st with
    | .val c v=>bif imp b c then K (.gd t want v) st else none
    | .call f args=>
         match aap st args,renL st (ab8 []) (fun _=>0) args with
         | [],some as=>C.call R b f as [] fun rs sub'=>match aev rs sub' with | some rs'=>fork rs' (K (.gd t want (adf rs')) st) (fun _=>none) | none=>none
         | _,_=>
          bif b then
           match renL st (ab8 (aap st args)) (fun _=>0) args,agb st (ab8 (aap st args)) (fun _=>0) (aap st args) with
           | some as,some sub=>C.call R true f as sub fun rs sub'=>match ad8 st (aap st args) rs sub' with | some (rs',bs)=>fork rs' (K (.gd t want (adf rs')) (abi (aap st args) bs st)) (fun _=>none) | none=>none
           | _,_=>none
          else K (.gd t want (abd C.P 12 o.type)) st
    | _=>none
def ako (op:Op):Bool:=match op with | .call _=>true | _=>false
def opW {R:Type} (C:Cfg) (ops:Array Oper) (o:Oper) (e:Env) (st:List BX) (K:SV->Option R):Option R:=
 match o.guard with
 | none=>
  match ac C.P o.op (opd e []) (match o.op with | .pick (.tmp t) _ _=>opd e [(t,true)] | _=>opd e []) (match o.op with | .pick (.tmp t) _ _=>opd e [(t,false)] | _=>opd e []) st with
  | .val c v=>bif c then K v else none
  | .call f args=>
   bif ako o.op then
    match aap st args,renL st (ab8 []) (fun _=>0) args with
    | [],some as=>C.call R true f as [] fun rs sub'=>match aev rs sub' with | some rs'=>fork rs' (K (adf rs')) (fun _=>none) | none=>none
    | _,_=>none
   else none
  | _=>none
 | some (j,want)=>
  match (ops[j]?).bind (·.dst) with
  | none=>none
  | some t=>
   match gval e 8 t want with
   | none=>none
   | some b=>
    match ac C.P o.op (opd e [(t,want)]) (match o.op with | .pick (.tmp u) _ _=>opd e [(u,true),(t,want)] | _=>opd e []) (match o.op with | .pick (.tmp u) _ _=>opd e [(u,false),(t,want)] | _=>opd e []) st with
    | .val c v=>bif imp b c then K (.gd t want v) else none
    | .call f args=>
         bif ako o.op then
          match aap st args,renL st (ab8 []) (fun _=>0) args with
          | [],some as=>C.call R b f as [] fun rs sub'=>match aev rs sub' with | some rs'=>fork rs' (K (.gd t want (adf rs'))) (fun _=>none) | none=>none
          | _,_=>none
         else none
    | _=>none
def aem (acc:List Nat):List Edge->Nat
 | []=>0
 | x::r=>bif Region.binds .any x then (2^x.on ||| acc.getD x.on 0) ||| aem acc r else aem acc r
def ancL:List Oper->List Nat->List Nat
 | [],acc=>acc
 | o::r,acc=>ancL r (acc++[aem acc o.after.toList])
def ao4:List Oper->Nat->Bool
 | [],_=>true
 | o::r,j=>o.after.toList.all (fun x=>!(Region.binds .any x)||Nat.blt x.on j)&&ao4 r (j+1)
def av0:List Nat->Bool
 | []=>true
 | x::r=>!(r.any (Nat.beq x))&&av0 r
def ace (t:Nat):List Oper->Nat->Option Nat
 | [],_=>none
 | o::r,i=>match o.dst with | some d=>(bif Nat.beq d t then some i else ace t r (i+1)) | none=>ace t r (i+1)
def acq (op:Op):Bool:=match op with | .alloc _=>true | .box _ _=>true | .makeMap _ _=>true | _=>false
def extV (P:Program) (op:Op) (ρ:Operand->SV) (k:Nat):Option (SV×BX):=
 match op with
 | .alloc T=>bif ae9 P T then some (.bref k T,.bld T []) else bif ab5 P T then some (.ref k [] T,.box T (abd P 12 T)) else none
 | .box T x=>bif ae9 P T&&aiy P 3 T (ρ x) then some (.bref k T,.bld T []) else bif af9 P T (ρ x) then some (.ref k [] T,.box T (ρ x)) else none
 | .makeMap T r=>match P.underlying T,r with | some (.map K E),none=>some (.mref k,.map K E []) | _,_=>none
 | _=>none
def azo (op:Op):Bool:=
 match op with
 | .alloc _=>true | .box _ _=>true | .makeMap _ _=>true | .makeSlice _ _ _=>true | .store _ _ _=>true | .insert _ _ _ _=>true | .mapUpdate _ _ _ _=>true | .mapEntry _ _ _=>true | .entryStore _ _ _ _=>true | .range _ _=>true | .next _ _=>true
 | .call c=>(match c.callee with | .builtin .append=>true | _=>false)
 | _=>false
def a5i (op:Op):Bool:=match op with | .call c=>(match c.callee with | .value _=>true | _=>false) | _=>false
def a6w (op:Op):Bool:=match op with | .load _ _=>true | .lookup _ _ _ _=>true | .call _=>true | _=>false
structure DI where
 l:List Oper
 anc:List Nat
def DI.lt (d:DI) (i j:Nat):Bool:=Nat.blt i j&&Nat.testBit (d.anc.getD j 0) i
def DI.cmp (d:DI) (i j:Nat):Bool:=bif Nat.beq i j then true else bif Nat.blt i j then d.lt i j else d.lt j i
def ajw (f:Nat->Oper->Bool):List Oper->Nat->Bool
 | [],_=>true
 | o::r,i=>f i o&&ajw f r (i+1)
def a6v (op:Op):Bool:=match op with | .load _ _=>true | _=>false
def DI.upd (d:DI) (j:Nat) (o:Oper):Bool:=azo o.op||(a5i o.op&&ajw (fun i x=>!(azo x.op||a6w x.op)||d.cmp i j||(a6v x.op&&x.guard.isNone&&o.guard.isNone)) d.l 0)
def DI.soft (d:DI) (o:Oper):Bool:=match o.op with | .store _ (.tmp t) _=>(match ace t d.l 0 with | some i=>(match d.l[i]? with | some x=>acq x.op | none=>false) | none=>false) | _=>false
def DI.isA (d:DI) (j:Nat):Bool:=ajw (fun i x=>!(d.upd i x)||d.cmp i j) d.l 0
def DI.isN (d:DI) (j:Nat):Bool:=ajw (fun i x=>!(d.upd i x&&!(acq x.op))||d.cmp i j) d.l 0
def DI.isB (d:DI) (j:Nat):Bool:=ajw (fun i x=>!(d.upd i x&&!(acq x.op||d.soft x))||d.cmp i j) d.l 0
def az9 (n0:Nat) (o:Oper) (e:Env):Bool:=match o.op with | .store _ a _=>(match opd e [] a with | .ref k _ _=>Nat.ble n0 k | _=>false) | _=>false
def DI.mask (d:DI) (j:Nat) (e:Env):Env:=fun t=>match ace t d.l 0 with | some i=>(bif d.cmp i j then e t else .undef) | none=>e t
def gdOk (d:DI) (j:Nat) (o:Oper):Bool:=match o.guard with | some (g,_)=>d.lt g j | none=>true
def DI.last (d:DI) (j:Nat):Bool:=ajw (fun i _=>Nat.ble i j||d.lt j i) d.l 0
def aon:SV->Option Nat
 | .ref k _ _=>some k
 | .eref k _ _=>some k
 | .aref k _ _ _ _ _=>some k
 | _=>none
structure LM where
 j:Nat
 T:TypeId
 a:SV
 k:Nat
 v:SV
 u:Bool
 f:Nat->Bool
 q:Option SV
def rdAc (P:Program) (p:LM) (st:List BX):Ac:=match p.q with | none=>aep P p.T st p.a | some key=>acm P p.T st p.a key false
def a0r (p:LM):Option Nat:=match p.q with | none=>aon p.a | some _=>(match p.a with | .mref k=>some k | _=>none)
def aph (op:Op):Bool:=match op with | .mapEntry _ _ _=>true | _=>false
def arj (lk:List LM) (i k:Nat):Bool:=lk.any fun p=>p.u&&Nat.beq p.j i&&p.f k
def lmOf (d:DI) (n0 j:Nat) (o:Oper) (e:Env) (lk:List LM):Option LM:=
 match o.guard,o.op with
 | none,.load T a=>
  match aon (opd e [] a) with
  | some k=>bif Nat.blt k n0&&!(d.isA j)&&!(d.isB j)&&ajw (fun i x=>!(d.upd i x)||Nat.ble j i||d.cmp i j||arj lk i k) d.l 0 then some ⟨j,T,opd e [] a,k,.undef,false,fun _=>false,none⟩ else none
  | none=>none
 | none,.lookup T m x false=>
  match opd e [] m with
  | .mref k=>bif Nat.blt k n0&&!(d.isA j)&&!(d.isB j)&&ajw (fun i x=>!(d.upd i x)||Nat.ble j i||d.cmp i j||arj lk i k) d.l 0 then some ⟨j,T,.mref k,k,.undef,false,fun _=>false,some (opd e [] x)⟩ else none
  | _=>none
 | _,_=>none
def auj (a:Ac) (v:SV):Bool:=
 match a,v with
 | .val true (.arr k g E),.arr k' g' E'=>Nat.beq k k'&&Nat.beq g g'&&Nat.beq E E'
 | _,_=>false
def av1 (op:Op) (e:Env) (k:Nat):Bool:=
 match op with
 | .store _ a x=>(match aon (opd e [] a) with | some i=>!(Nat.beq i k)&&!((alj (opd e [] x)).any (Nat.beq k)) | none=>false)
 | .call c=>
  match c.callee,c.args.toList with
  | .builtin .append,[x,_]=>(match opd e [] x with | .acc j _ _ _=>!(Nat.beq j k) | .arr j _ _=>!(Nat.beq j k) | .nils=>true | .lit _ _=>true | _=>false)
  | _,_=>false
 | _=>false
def aib (C:Cfg) (o:Oper) (e:Env) (st:List BX) (k:Nat):Bool:=
 match o.guard,ac C.P o.op (opd e []) (match o.op with | .pick (.tmp t) _ _=>opd e [(t,true)] | _=>opd e []) (match o.op with | .pick (.tmp t) _ _=>opd e [(t,false)] | _=>opd e []) st with
 | none,.call _ args=>!((aap st args).any (Nat.beq k))
 | none,.upd _ _ _=>av1 o.op e k
 | _,_=>false
def lmOk (C:Cfg) (d:DI) (j:Nat) (o:Oper) (e:Env) (st st':List BX) (lk:List LM):Bool:=
 lk.all fun p=>p.u||d.cmp p.j j||acq o.op||d.soft o||aib C o e st p.k||auj (rdAc C.P p st') p.v||(p.q.isSome&&aph o.op)
def runD {R:Type} (C:Cfg) (d:DI) (ops:Array Oper) (n0:Nat):List Oper->Nat->Env->List BX->List LM->(Env->List BX->Option R)->(SV->List BX->Option R)->Option R
 | [],_,e,st,_,K,_=>K e st
 | o::r,j,e,st,lk,K,X=>
  bif akz C.n o.dst&&gdOk d j o then
   bif d.upd j o then
    bif (bif acq o.op then d.isN j else d.isA j)&&Nat.ble n0 st.length&&(!(d.soft o)||az9 n0 o (d.mask j e)) then
     opV C ops o (d.mask j e) st (fun v st'=>bif Nat.ble n0 st'.length&&lmOk C d j o (d.mask j e) st st' lk then runD C d ops n0 r (j+1) (put e o.dst v) st' (lk++[⟨j,0,.undef,0,.undef,true,fun k=>aib C o (d.mask j e) st k,none⟩]) K X else none) (fun s st'=>bif d.last j&&!(acq o.op) then X s st' else none)
    else none
   else
    match lmOf d n0 j o (d.mask j e) lk with
    | some p=>opW C ops o (d.mask j e) st fun v=>runD C d ops n0 r (j+1) (put e o.dst v) st (lk++[{ p with v:=v }]) K X
    | none=>opW C ops o (d.mask j e) (bif d.isA j then st else st.take (bif d.isB j then n0 else 0)) fun v=>runD C d ops n0 r (j+1) (put e o.dst v) st lk K X
  else none
def mkDI (ops:Array Oper):DI:={ l:=ops.toList,anc:=ancL ops.toList [] }
def aqz (P:Program) (ops:Array Oper):Bool:=P.follows .mixedOrders&&ao4 ops.toList 0&&av0 (dsts ops.toList)
def runR {R:Type} (C:Cfg) (ops:Array Oper) (draw:Bool) (e:Env) (st:List BX) (K:Env->List BX->Option R) (X:SV->List BX->Option R):Option R:=
 bif draw then (bif aqz C.P ops then runD C (mkDI ops) ops st.length ops.toList 0 e st [] K X else none) else ah0 C ops ops.toList e st K X
structure Ks (R:Type) where
 norm:Env->List BX->Option R
 exit:Nat->Env->List BX->Option R
 ret:Env->List BX->Option R
 pan:SV->List BX->Option R
def ai1:Code->Nat
 | .region id _ _=>id+1
 | .seq a b=>match ai1 a with | 0=>ai1 b | n=>n
 | .block _ c=>ai1 c
 | .cond _ a b=>match ai1 a with | 0=>ai1 b | n=>n
 | .loop c=>ai1 c
 | .scope c=>ai1 c
 | _=>0
def exec {R:Type} (C:Cfg):Code->Ks R->Env->List BX->Option R
 | .skip,K,e,st=>K.norm e st
 | .region _ ops draw,K,e,st=>runR C ops draw e st (fun e st=>K.norm (sweep e) st) K.pan
 | .seq a b,K,e,st=>exec C a { norm:=exec C b K,exit:=K.exit,ret:=K.ret,pan:=K.pan } e st
 | .cond c x y,K,e,st=>
  match c with
  | .tmp t=>match e t with | .bool b=>bif b then exec C x K (e.set t (.bool true)) st else exec C y K (e.set t (.bool false)) st | _=>none
  | .const (.bool b)=>bif b then exec C x K e st else exec C y K e st
  | _=>none
 | .block id body,K,e,st=>exec C body { norm:=K.norm,exit:=fun i e st=>bif Nat.beq i id then K.norm e st else K.exit i e st,ret:=K.ret,pan:=K.pan } e st
 | .loop body,K,e,st=>C.lam R (ai1 body) e st fun x e st=>match x with | .exit i=>K.exit i e st | .ret=>K.ret e st | .pan=>K.pan (e 0) st
 | .exit i,K,e,st=>K.exit i e st
 | .ret,K,e,st=>K.ret e st
 | _,_,_,_=>none
def a4o (P:Program) (e:Env) (st:List BX) (r:ResultVar):Option SV:=
 match r with
 | .tmp t=>match e t with | .gd _ _ _=>none | s=>some s
 | .cell t T'=>match e t with
  | .ref k [] T''=>bif Nat.beq T' T''&&(P.underlying T').isSome&&(aaj P T'||Nat.beq (P.cellsOf T') 1) then (match st[k]? with | some (.box _ s)=>some s | _=>none) else none
  | _=>none
def arz (P:Program) (e:Env) (st:List BX):List ResultVar->Option (List SV)
 | []=>some []
 | r::rs=>match a4o P e st r,arz P e st rs with | some x,some q=>some (x::q) | _,_=>none
def a6c (P:Program) (own:Bool) (st:List BX) (T:TypeId) (s:SV):Option SV:=
 match s with
 | .mref k=>match st[k]? with | some (.map K E es)=>some (.map K E es) | _=>none
 | .arr k g E=>bif own then some (.arr k g E) else (match af8 st k g E with | some xs=>some (.slice E xs) | none=>none)
 | .pto _ _=>none
 | .ref k p T'=>some (.ref k p T')
 | .bref k T'=>some (.bref k T')
 | .agg T' fs=>bif own then (match ain P (some T) (.agg T' fs) with | some x=>some x | none=>some (.agg T' fs)) else (match ain P (some T) (frzS st (.agg T' fs)) with | some x=>some x | none=>some (frzS st (.agg T' fs)))
 | .nils=>bif own then some .nils else ain P (some T) .nils
 | s=>ain P (some T) s
def aif (P:Program) (own:Bool) (st:List BX):List TypeId->List SV->Option (List SV)
 | [],[]=>some []
 | T::ts,s::ss=>match a6c P own st T s,aif P own st ts ss with | some x,some q=>some (x::q) | _,_=>none
 | _,_=>none
def frozen (own:Bool):List SV->List Nat
 | []=>[]
 | .mref k::r=>k::frozen own r
 | .arr k _ _::r=>bif own then frozen own r else k::frozen own r
 | .agg T fs::r=>bif own then frozen own r else ao1 fs++frozen own r
 | _::r=>frozen own r
def ae5 (st:List BX) (np:Nat) (vs:List SV):List Nat:=at9 st 4 (aez (List.range np) (afd false st vs))
def ao5 (P:Program) (own:Bool) (e:Env) (st:List BX) (np:Nat) (ts:List TypeId) (rs:List ResultVar):Option (List SV×List BX):=
 match arz P e st rs with
 | none=>none
 | some raws=>
  match aif P own st ts raws with
  | none=>none
  | some vs=>
   bif (frozen own raws).all (fun k=>!((ae5 st np vs).any (Nat.beq k))) then
    match renL st (ab8 (ae5 st np vs)) (ah4 st) vs,agb st (ab8 (ae5 st np vs)) (ah4 st) (ae5 st np vs) with
    | some vs',some sub=>some (vs',sub)
    | _,_=>none
   else none
def ay5 (P:Program) (st:List BX) (np:Nat) (s:SV):Option (List SV×List BX):=
 match s with
 | .ifc T x=>
  match ain P (some T) x,agb st (ab8 (ae5 st np [])) (ah4 st) (ae5 st np []) with
  | some x',some sub=>some ([.pan (.ifc T x')],sub)
  | _,_=>none
 | _=>none
def an2 (args:List SV):Env:=fun t=>args.getD t .undef
def awr {R:Type} (C:Cfg) (fn:Func) (args:List SV) (st:List BX) (K:List SV->List BX->Option R):Option R:=
 match fn.body with
 | some c=>
  let fin:Env->List BX->Option R:=fun e s=>match ao5 C.P C.own e s st.length fn.resultTypes.toList fn.results.toList with | some (rs,s')=>K rs s' | none=>none
  exec C c { norm:=fin,exit:=fun _ _ _=>none,ret:=fin,pan:=fun s st'=>match ay5 C.P st' st.length s with | some (rs,s')=>K rs s' | none=>none } (an2 args) st
 | none=>none
end Go.Ab
