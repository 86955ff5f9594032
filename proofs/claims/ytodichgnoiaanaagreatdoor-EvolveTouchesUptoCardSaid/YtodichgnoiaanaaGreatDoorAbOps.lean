/- The evaluator over abstract values. Nothing is proved here. -/
import Derived.Test.YtodichgnoiaanaaGreatDoorAbVal
set_option linter.unusedVariables false
set_option linter.unusedSimpArgs false
set_option linter.unnecessarySimpa false
namespace Go.Ab
open Go
abbrev Env:=Nat->SV
def Env.set (e:Env) (d:Nat) (v:SV):Env:=λt=>bif Nat.beq t d then v else e t
def put (e:Env) (d:Option Nat) (v:SV):Env:=
 match d with
 | some d=>e.set d v
 | none=>e
def afs (e:Env):Nat->Nat->Bool->Nat->Bool->Bool
 | 0,_,_,_,_=>false
 | f+1,t1,w1,t,w=>bif Nat.beq t1 t&&(bif w1 then w else !w) then true else
  match e t1 with
  | .gd h o _=>afs e f h o t w
  | _=>false
def aib (e:Env):List (Nat×Bool)->Nat->Bool->Bool
 | [],_,_=>false
 | (t1,w1)::r,t,w=>bif afs e 8 t1 w1 t w then true else aib e r t w
def rd (e:Env) (h:List (Nat×Bool)) (s:SV):SV:=
 match s with
 | .gd t w v=>bif aib e h t w then v else .undef
 | s=>s
def av7 (v:Value):SV:=
 match v with
 | .bool b=>.bool b
 | .int k n=>.int k n
 | .string s=>.str s.data.toList
 | .slice none 0 0=>.nils
 | .nilIface=>.eif true
 | v=>.raw v
def opd (e:Env) (h:List (Nat×Bool)) (x:Operand):SV:=
 match x with
 | .tmp t=>rd e h (e t)
 | .const v=>av7 v
 | .global _=>.undef
 | .func f=>.fn f 0 []
def bq (b w:Bool):Bool:=bif w then b else !b
def gval (e:Env):Nat->Nat->Bool->Option Bool
 | 0,_,_=>none
 | f+1,t,w=>
  match e t with
  | .bool b=>some (bq b w)
  | .gd h o (.bool b)=>
   match gval e f h o with
   | some c=>some (bif bq b w then c else false)
   | none=>none
  | _=>none
def imp (b c:Bool):Bool:=bif c then true else !b
def aam:Nat:=4611686018427387904
def aae:Nat:=68719476736
def ab8 (P:Program):List Field->Nat->Option Nat
 | [],n=>some n
 | f::r,n=>bif Nat.beq f.offset n&&!(Nat.beq (P.cellsOf f.type) 0)&&(aaj P f.type||Nat.beq (P.cellsOf f.type) 1) then ab8 P r (n+P.cellsOf f.type) else none
def ace (P:Program) (T:TypeId):Bool:=
 match aggF P T with
 | some h=>
  match ab8 P h.toList 0 with
  | some n=>Nat.beq n (P.cellsOf T)
  | none=>false
 | none=>false
mutual
def toPV:SV->PV
 | .bool b=>.bool b
 | .int _ n=>.int n
 | .str s=>.str s
 | .slice _ xs=>.slice xs
 | .data _ v=>v
 | .agg _ h=>.agg (avg h)
 | .map _ _ es=>.map es
 | .nils=>.slice []
 | .acc _ _ _ xs=>.slice xs
 | .lit _ xs=>.slice xs
 | .raw v=>.raw v
 | _=>.bad
def avg:List SV->List PV
 | []=>[]
 | s::r=>toPV s::avg r
end
mutual
def isOf (P:Program) (T:TypeId):SV->Bool
 | .bool _=>match P.underlying T with | some .bool=>true | _=>false
 | .int k _=>match P.underlying T with | some (.int k')=>decide (k=k') | _=>false
 | .str _=>match P.underlying T with | some .string=>true | _=>false
 | .slice E _=>match P.underlying T with | some (.slice E')=>Nat.beq E E' | _=>false
 | .data h _=>Nat.beq T h
 | .agg h o=>Nat.beq T h&&ace P T&&(match aggF P T with | some ds=>a0d P ds.toList o | none=>false)
 | .map K E _=>match P.underlying T with | some (.map K' E')=>Nat.beq K K'&&Nat.beq E E' | _=>false
 | .nils=>match P.underlying T with | some (.slice _)=>true | _=>false
 | .acc _ _ E _=>match P.underlying T with | some (.slice E')=>Nat.beq E E' | _=>false
 | .lit E _=>match P.underlying T with | some (.slice E')=>Nat.beq E E' | _=>false
 | .raw v=>rawT P T&&v.oneCell'
 | _=>false
def a0d (P:Program):List Field->List SV->Bool
 | [],[]=>true
 | f::r,s::q=>isOf P f.type s&&a0d P r q
 | _,_=>false
end
def afd (P:Program) (T:TypeId) (s:SV):Bool:=
 match s with
 | .data h _ | .agg h _=>Nat.beq T h&&aaj P T
 | .undef | .tup _ | .gd _ _ _ | .nx _ _ _ | .avw _ _ _ _ | .lits _ _=>false
 | .raw v=>!aaj P T&&Nat.beq (P.cellsOf T) 1&&v.oneCell'
 | _=>!aaj P T&&Nat.beq (P.cellsOf T) 1
def ah1 (P:Program) (T:TypeId) (v:PV):List Field->Nat->List SV
 | [],_=>[]
 | f::r,i=>ofPV P f.type (v.fld i)::ah1 P T v r (i+1)
def aha (P:Program) (TB:TypeId) (s:SV):Option (List SV):=
 bif ace P TB then
  match s with
  | .agg T h=>bif Nat.beq TB T then some h else none
  | .data T v=>bif Nat.beq TB T then (match aggF P TB with | some ds=>some (ah1 P T v ds.toList 0) | none=>none) else none
  | _=>none
 else none
def ahv (P:Program):TypeId->SV->List Nat->Option SV
 | _,s,[]=>some s
 | TB,s,i::p=>
  match aha P TB s,aggF P TB with
  | some o,some h=>match o[i]?,h[i]? with | some x,some f=>ahv P f.type x p | _,_=>none
  | _,_=>none
def ah6 (P:Program):TypeId->SV->List Nat->SV->Option SV
 | _,_,[],x=>some x
 | TB,s,i::p,x=>
  match aha P TB s,aggF P TB with
  | some h,some o=>
   match h[i]?,o[i]? with
   | some y,some f=>match ah6 P f.type y p x with | some z=>some (.agg TB (h.set i z)) | none=>none
   | _,_=>none
  | _,_=>none
def aa1 (P:Program):Nat->TypeId->SV
 | 0,_=>.undef
 | n+1,T=>
  match P.underlying T with
  | some .bool=>.bool false
  | some (.int k)=>.int k 0
  | some .string=>.str []
  | some (.slice _)=>.nils
  | some (.struct h)=>.agg T (h.toList.map λf=>aa1 P n f.type)
  | some (.array k E)=>(match arrF P k E with | some h=>.agg T (h.toList.map λf=>aa1 P n f.type) | none=>.data T (.agg (List.replicate k (toPV (aa1 P n E)))))
  | some (.map K E)=>.map K E []
  | some (.pointer _)=>.raw (.pointer none)
  | some (.func _ _ _)=>.raw .nilFunc
  | some (.interface _)=>.raw .nilIface
  | _=>.undef
def zeroCells? (P:Program):Nat->TypeId->List Value->Bool
 | 0,_,_=>false
 | n+1,T,cs=>
  match P.underlying T,cs with
  | some .bool,[.bool b]=>!b
  | some (.int k),[.int o m]=>decide (k=o)&&decide (m=0)
  | some .string,[.string s]=>s.data.toList.isEmpty
  | some (.slice _),[.slice none 0 0]=>true
  | some (.struct h),cs=>ace P T&&Nat.beq cs.length (P.cellsOf T)&&h.toList.all λf=>zeroCells? P n f.type ((cs.drop f.offset).take (P.cellsOf f.type))
  | some (.array k E),cs=>Nat.beq cs.length (P.cellsOf T)&&Nat.beq (P.cellsOf T) (k*P.cellsOf E)&&(aaj P E||Nat.beq (P.cellsOf E) 1)&&isOf P E (aa1 P n E)&&(List.range k).all λi=>zeroCells? P n E ((cs.drop (i*P.cellsOf E)).take (P.cellsOf E))
  | some (.map _ _),[.map none]=>true
  | some (.pointer _),[.pointer none]=>true
  | some (.func _ _ _),[.nilFunc]=>true
  | some (.interface _),[.nilIface]=>true
  | _,_=>false
def ab3 (P:Program) (T:TypeId):Bool:=
 match (P.info? T).map (·.zero) with
 | some (some z)=>zeroCells? P 12 T z.cells.toList&&Nat.beq z.cells.size (P.cellsOf T)&&(match z with | .agg _=>aaj P T | _=>!aaj P T)
 | _=>false
def ahg (op:BinOp) (k:IntKind) (x y:Int):Int:=
 match op with
 | .and=>k.wrap (BitVec.ofInt k.bits x &&& BitVec.ofInt k.bits y).toNat
 | .or=>k.wrap (BitVec.ofInt k.bits x ||| BitVec.ofInt k.bits y).toNat
 | .xor=>k.wrap (BitVec.ofInt k.bits x ^^^ BitVec.ofInt k.bits y).toNat
 | _=>k.wrap (BitVec.ofInt k.bits x &&& ~~~(BitVec.ofInt k.bits y)).toNat
inductive Ac where
 | fail
 | val (c:Bool) (v:SV)
 | upd (c:Bool) (v:SV) (st:List BX)
 | call (f:FuncId) (args:List SV)
 | pan (v:SV)
 deriving Inhabited
def a0c (op:BinOp) (k:IntKind) (x y:Int):Ac:=
 match op with
 | .add=>.val true (.int k (k.wrap (x+y)))
 | .sub=>.val true (.int k (k.wrap (x-y)))
 | .mul=>.val true (.int k (k.wrap (x*y)))
 | .quo=>.val (!(decide (y=0))) (.int k (k.wrap (x.tdiv y)))
 | .rem=>.val (!(decide (y=0))) (.int k (x.tmod y))
 | .and | .or | .xor | .andNot=>.val true (.int k (ahg op k x y))
 | .eql=>.val true (.bool (x==y))
 | .neq=>.val true (.bool (x != y))
 | .lss=>.val true (.bool (decide (x<y)))
 | .leq=>.val true (.bool (decide (x<=y)))
 | .gtr=>.val true (.bool (decide (x>y)))
 | .geq=>.val true (.bool (decide (x>=y)))
 | _=>.fail
def a09 (op:BinOp) (x y:Bo):Ac:=
 match op with
 | .add=>.val (decide (x.length+y.length<=aam)) (.str (x++y))
 | .eql=>.val true (.bool (x==y))
 | .neq=>.val true (.bool (!(x==y)))
 | .lss=>.val true (.bool (Op.bytesLess x y))
 | .leq=>.val true (.bool (Op.bytesLess x y||x==y))
 | .gtr=>.val true (.bool (!(Op.bytesLess x y||x==y)))
 | .geq=>.val true (.bool (!(Op.bytesLess x y)))
 | _=>.fail
def aqa (op:BinOp) (x y:Bool):Ac:=
 match op with
 | .eql=>.val true (.bool (x==y))
 | .neq=>.val true (.bool (!(x==y)))
 | _=>.fail
def awp (P:Program) (T:TypeId):Bool:=match P.underlying T with | some .bool=>true | _=>false
def arh (P:Program) (T:TypeId) (x y:SV):Option Bool:=
 match P.underlying T,x,y with
 | some .bool,.bool a,.bool b=>some (a==b)
 | some (.int _),.int k a,.int h b=>bif decide (k=h) then some (a==b) else none
 | some .string,.str a,.str b=>some (a==b)
 | _,_,_=>none
def ac9 (P:Program):List Field->List SV->List SV->Option Bool
 | [],[],[]=>some true
 | f::ds,x::xs,y::ys=>match arh P f.type x y,ac9 P ds xs ys with | some b,some c=>some (bif b then c else false) | _,_=>none
 | _,_,_=>none
def aej (P:Program) (op:BinOp) (T:TypeId) (x y:SV):Ac:=
 match P.underlying T,aha P T x,aha P T y with
 | some (.struct h),some xs,some ys=>
  bif h.toList.all (λf=>!(f.name== "_"))&&!(P.stoodInHeld T)&&!(P.eqGuardType P.depth T) then
   match op,ac9 P h.toList xs ys with
   | .eql,some b=>.val true (.bool b)
   | .neq,some b=>.val true (.bool (!b))
   | _,_=>.fail
  else .fail
 | _,_,_=>.fail
def aik (P:Program) (T:TypeId):Bool:=match P.underlying T with | some (.slice _)=>true | _=>false
def aet (op:BinOp) (b:Bool):Ac:=
 match op with
 | .eql=>.val true (.bool b)
 | .neq=>.val true (.bool (!b))
 | _=>.fail
def avy (P:Program) (op:BinOp) (T:TypeId) (x y:SV):Ac:=
 match x,y with
 | .int k a,.int h b=>
  match op with
  | .shl=>.val (decide (0<=b)) (.int k (k.wrap (a*2^(min b.toNat k.bits))))
  | .shr=>.val (decide (0<=b)) (.int k (a.fdiv (2^(min b.toNat k.bits))))
  | op=>bif decide (k=h) then a0c op k a b else .fail
 | .str a,.str b=>a09 op a b
 | .bool a,.bool b=>bif awp P T then aqa op a b else .fail
 | .sln _ _,.nils=>bif aik P T then aet op false else .fail
 | .nils,.nils=>bif aik P T then aet op true else .fail
 | x,y=>aej P op T x y
def am2 (P:Program) (T:TypeId):Bool:=match P.underlying T with | some (.interface _)=>true | _=>false
def a3t (y:Operand):Bool:=match y with | .const .nilIface=>true | _=>false
def ag2 (op:BinOp) (x:SV):Ac:=
 match op,x with
 | .eql,.eif b=>.val true (.bool b)
 | .neq,.eif b=>.val true (.bool (!b))
 | .eql,.ifc _ _=>.val true (.bool false)
 | .neq,.ifc _ _=>.val true (.bool true)
 | .eql,.raw .nilIface=>.val true (.bool true)
 | .neq,.raw .nilIface=>.val true (.bool false)
 | _,_=>.fail
def anm (P:Program) (op:BinOp) (T:TypeId) (y:Operand) (a b:SV):Ac:=bif a3t y&&am2 P T then (match b with | .eif true=>ag2 op a | _=>.fail) else avy P op T a b
def unAc (op:UnOp) (x:SV):Ac:=
 match op,x with
 | .not,.bool b=>.val true (.bool (!b))
 | .neg,.int k n=>.val true (.int k (k.wrap (0-n)))
 | .xor,.int k n=>.val true (.int k (ahg .xor k (if k.signed then -1 else k.max) n))
 | _,_=>.fail
def ame (s:SV):Option (List PV):=
 match s with
 | .slice _ xs=>some xs
 | .acc _ _ _ xs=>some xs
 | .lit _ xs=>some xs
 | .sln _ xs=>some xs
 | .nils=>some []
 | _=>none
def al9 (P:Program) (E:TypeId) (s:SV):Bool:=
 match s with
 | .slice h _ | .acc _ _ h _ | .lit h _ | .sln h _=>Nat.beq E h
 | .nils=>true
 | _=>false
def a3s (P:Program) (E:TypeId):Bool:=match P.underlying E with | some (.int .u8)=>true | _=>false
def aay (v:PV):UInt8:=UInt8.ofNat v.asInt.toNat
def adx (P:Program) (h E:TypeId):Bool:=(match P.underlying h with | some (.slice E')=>Nat.beq E' E | _=>false)&&a3s P E&&Nat.beq (P.cellsOf E) 1
def ans (P:Program) (h o:TypeId) (x:SV):Ac:=
 bif (P.underlying h).isSome then
  match P.underlying o,x with
  | some (.int k),.int _ n=>.val true (.int k (k.wrap n))
  | some .string,.str s=>.val true (.str s)
  | some .string,.slice E xs=>bif adx P h E then .val true (.str (xs.map aay)) else .fail
  | some .string,.acc _ _ E xs=>bif adx P h E then .val true (.str (xs.map aay)) else .fail
  | some .string,.lit E xs=>bif adx P h E then .val true (.str (xs.map aay)) else .fail
  | some .string,.int _ n=>.val true (.str (Utf8.encode n).data.toList)
  | _,_=>.fail
 else .fail
def as7 (P:Program) (TB E:TypeId):Bool:=match P.underlying TB with | some (.array n E')=>Nat.beq E E'&&Nat.beq (P.cellsOf TB) (n*P.cellsOf E) | _=>false
def afg (P:Program) (st:List BX) (o h:TypeId) (x:SV):Ac:=
 match x with
 | .asl k H n E=>
  match P.underlying h,st[k]? with
  | some .string,some (.box TB (.data z v))=>bif Nat.beq TB z&&as7 P TB E&&adx P o E then .val true (.str (((v.parts.drop H).take n).map aay)) else .fail
  | _,_=>.fail
 | x=>ans P o h x
def aee (st:List BX) (k g:Nat) (E:TypeId):Option (List PV):=match st[k]? with | some (.arr E' g' xs)=>(bif Nat.beq g g'&&Nat.beq E E' then some xs else none) | _=>none
def arz (P:Program) (T:TypeId) (st:List BX) (x:SV):Ac:=
 match P.underlying T,x with
 | some .string,.str s=>.val true (.int .i64 s.length)
 | some (.slice _),.slice _ xs=>.val true (.int .i64 xs.length)
 | some (.slice _),.acc _ _ _ xs=>.val true (.int .i64 xs.length)
 | some (.slice _),.lit _ xs=>.val true (.int .i64 xs.length)
 | some (.slice _),.nils=>.val true (.int .i64 0)
 | some (.slice _),.arr k g E=>match aee st k g E with | some xs=>.val true (.int .i64 xs.length) | none=>.fail
 | some (.slice _),.avw k g h E=>match aee st k g E with | some xs=>.val true (.int .i64 ((xs.length-h:Nat):Int)) | none=>.fail
 | some (.map _ _),.map _ _ es=>.val true (.int .i64 es.length)
 | some (.map _ _),.mref k=>match st[k]? with | some (.map _ _ es)=>.val true (.int .i64 es.length) | _=>.fail
 | _,_=>.fail
def afn (st:List BX) (k g:Nat):Bool:=match st[k]? with | some (.arr _ g' _)=>Nat.beq g g' | _=>false
def anh (st:List BX) (k g:Nat):Bool:=match st[k]? with | some (.acc g')=>Nat.beq g g' | _=>false
def bbe (st:List BX) (y:SV):Option (List PV):=match y with | .arr k g E=>aee st k g E | y=>ame y
def a2n (P:Program) (E:TypeId) (y:SV):Bool:=match y with | .arr _ _ E'=>Nat.beq E E' | y=>al9 P E y
def acn (P:Program) (st:List BX) (T:TypeId) (x y:SV):Ac:=
 match P.underlying T,bbe st y with
 | some (.slice E),some ys=>
  bif a2n P E y&&Nat.ble (P.bytesOf E) 512&&!(Nat.beq (P.bytesOf E) 0)&&!(Nat.beq (P.cellsOf E) 0)&&ab3 P E then
   match x with
   | .nils=>.upd (decide (ys.length<=aae)) (.acc st.length 0 E ys) (st++[.acc 0])
   | .acc k g h xs=>bif Nat.beq E h&&anh st k g then
         .upd (decide (xs.length+ys.length<=aae)) (.acc k (g+1) E (xs++ys)) (st.set k (.acc (g+1))) else .fail
   | .lit h []=>bif Nat.beq E h then .upd (decide (ys.length<=aae)) (.arr st.length 1 E) (st++[.arr E 1 ys]) else .fail
   | .lit h (x::xs)=>bif Nat.beq E h then .upd (decide ((x::xs).length+ys.length<=aae)) (.slice E (x::xs++ys)) st else .fail
   | .arr k g h=>bif Nat.beq E h then (match aee st k g E with | some xs=>.upd (decide (xs.length+ys.length<=aae)) (.arr k (g+1) E) (st.set k (.arr E (g+1) (xs++ys))) | none=>.fail) else .fail
   | _=>.fail
  else .fail
 | _,_=>.fail
def aii (h:Bool) (a:Int):List SV->Option Int
 | []=>some a
 | .int _ b::r=>aii h (bif h then (if b>a then b else a) else (if b<a then b else a)) r
 | _=>none
def ad1 (h:Bool):List SV->Ac
 | .int k a::r=>match aii h a r with | some n=>.val true (.int k n) | none=>.fail
 | _=>.fail
def aa0 (P:Program) (E:TypeId):Bool:=!(Nat.beq (P.cellsOf E) 0)&&(P.underlying E).isSome&&(aaj P E||Nat.beq (P.cellsOf E) 1)
def aem (h:List SV):List (Nat×SV)->Option (List SV)
 | []=>some h
 | (i,v)::r=>bif Nat.blt i h.length then aem (h.set i v) r else none
def am6 (P:Program) (h:Array Field) (p:Nat×SV):Bool:=match h[p.1]? with | some f=>afd P f.type p.2 | none=>false
def afi (P:Program) (n:Nat) (E:TypeId) (p:Nat×SV):Bool:=Nat.blt p.1 n&&isOf P E p.2
def ado (h:List PV):List (Nat×SV)->List PV
 | []=>h
 | (i,v)::r=>ado (h.set i (toPV v)) r
def aje (P:Program) (T:TypeId) (parts:List (Nat×SV)):Ac:=
 match P.underlying T,aa1 P 12 T with
 | some (.array n E),.data _ (.agg zs)=>bif ab3 P T&&aa0 P E&&Nat.beq (P.cellsOf T) (n*P.cellsOf E)&&parts.all (afi P n E) then .val true (.data T (.agg (ado zs parts))) else .fail
 | some (.struct h),.agg _ zs=>
  bif ab3 P T&&ace P T&&parts.all (am6 P h) then
   match aem zs parts with
   | some o=>.val true (.agg T o)
   | none=>.fail
  else .fail
 | _,_=>.fail
def aj1 (P:Program) (T:TypeId) (n:Nat) (parts:List (Nat×SV)):Option SV:=
 match P.underlying T,n,parts with
 | some (.slice E),1,[(0,.agg h o)]=>bif !(isOf P E (.agg h o))&&afd P E (.agg h o)&&ab3 P E&&Nat.ble (P.cellsOf E) 4096 then some (.lits E [.agg h o]) else none
 | _,_,_=>none
def acu (P:Program) (T:TypeId) (n:Nat) (parts:List (Nat×SV)):Ac:=
 match aj1 P T n parts with
 | some v=>.val true v
 | none=>
 match P.underlying T with
 | some (.slice E)=>
  bif ab3 P E&&isOf P E (aa1 P 12 E)&&!(Nat.beq (P.cellsOf E) 0)&&Nat.ble (n*P.cellsOf E) 4096&&parts.all (afi P n E) then
   .val true (.lit E (ado (List.replicate n (toPV (aa1 P 12 E))) parts)) else .fail
 | _=>.fail
def ahb (P:Program) (T:TypeId) (st:List BX) (a:SV):Ac:=
 match a with
 | .pto h v=>bif Nat.beq T h&&(P.underlying T).isSome then .val true (ofPV P T v) else .fail
 | .ref k path h=>
  bif Nat.beq T h&&(P.underlying T).isSome then
   match st[k]? with
   | some (.box TB s)=>bif aaj P T||Nat.beq (P.cellsOf T) 1 then (match ahv P TB s path with | some x=>.val true x | none=>.fail) else .fail
   | _=>.fail
  else .fail
 | .eref k i E=>
  bif Nat.beq T E&&aa0 P E then
   match st[k]? with
   | some (.box TB (.data o v))=>bif Nat.beq TB o&&as7 P TB E then .val true (ofPV P E (v.fld i)) else .fail
   | _=>.fail
  else .fail
 | .aref k g i E path h=>
  bif Nat.beq T h&&aa0 P E&&aa0 P T then
   match aee st k g E with
   | some xs=>(match ahv P E (ofPV P E (xs.getD i .bad)) path with | some x=>.val true x | none=>.fail)
   | none=>.fail
  else .fail
 | _=>.fail
def adz (P:Program) (T:TypeId) (st:List BX) (a x:SV):Ac:=
 match a with
 | .ref k path h=>
  bif Nat.beq T h&&afd P T x&&!(Nat.beq (P.cellsOf T) 0) then
   match st[k]? with
   | some (.box TB s)=>match ah6 P TB s path x with | some s'=>.upd true .undef (st.set k (.box TB s')) | none=>.fail
   | _=>.fail
  else .fail
 | .eref k i E=>
  bif Nat.beq T E&&isOf P E x&&aa0 P E then
   match st[k]? with
   | some (.box TB (.data o v))=>bif Nat.beq TB o&&as7 P TB E then .upd true .undef (st.set k (.box TB (.data TB (.agg (v.parts.set i (toPV x)))))) else .fail
   | _=>.fail
  else .fail
 | .aref k g i E path h=>
  bif Nat.beq T h&&aa0 P E&&afd P T x&&!(Nat.beq (P.cellsOf T) 0) then
   match aee st k g E with
   | some xs=>
    match ah6 P E (ofPV P E (xs.getD i .bad)) path x with
    | some y=>bif isOf P E y then .upd true .undef (st.set k (.arr E g (xs.set i (toPV y)))) else .fail
    | none=>.fail
   | none=>.fail
  else .fail
 | _=>.fail
mutual
def amp:SV->List Nat
 | .arr k _ _=>[k]
 | .mref k=>[k]
 | .agg _ h=>as8 h
 | _=>[]
def as8:List SV->List Nat
 | []=>[]
 | s::r=>amp s++as8 r
end
mutual
def frzS (st:List BX):SV->SV
 | .arr k g E=>(match aee st k g E with | some xs=>.slice E xs | none=>.undef)
 | .mref k=>(match st[k]? with | some (.map K E es)=>.map K E es | _=>.undef)
 | .agg T h=>.agg T (frzL st h)
 | s=>s
def frzL (st:List BX):List SV->List SV
 | []=>[]
 | s::r=>frzS st s::frzL st r
end
def aeb (P:Program) (T:TypeId) (st:List BX) (a x:SV):Ac:=
 match a with
 | .aref k _ _ _ _ _=>
  match amp x with
  | [j]=>(match st[j]? with | some (.arr E g _)=>(bif Nat.beq j k then .fail else adz P T (st.set j (.arr E (g+1) [])) a (frzS st x)) | _=>.fail)
  | _=>adz P T st a x
 | _=>adz P T st a x
def bba (P:Program):Nat->TypeId->Bool
 | 0,_=>false
 | n+1,T=>
  match P.underlying T with
  | some (.struct h)=>
   match h.toList with
   | [f]=>Nat.beq f.offset 0&&bba P n f.type
   | [f,g]=>(match P.underlying f.type with | some (.pointer e)=>Nat.beq e T | _=>false)&&(match P.underlying g.type with | some (.slice e)=>a3s P e&&Nat.beq (P.cellsOf e) 1 | _=>false)&&Nat.beq f.offset 0&&Nat.beq g.offset 1
   | _=>false
  | _=>false
def avz (P:Program) (T:TypeId):Bool:=
 match (P.info? T).bind (λi=>i.zero) with
 | some (Value.agg cs)=>(match cs.toList with | [.pointer none,.slice none 0 0]=>true | _=>false)
 | _=>false
def ai6 (P:Program) (T:TypeId):Bool:=bba P 3 T&&avz P T
def acv (P:Program) (st:List BX) (S:TypeId) (i:Nat) (a:SV):Ac:=
 match P.underlying S with
 | some (.struct h)=>
  match h[i]? with
  | some f=>
   bif Nat.beq (P.cellsOf f.type) 0 then .fail else
   match a with
   | .pto T v=>bif Nat.beq S T then .val true (.pto f.type (v.fld i)) else .fail
   | .ref k path T=>bif Nat.beq S T then .val true (.ref k (path++[i]) f.type) else .fail
   | .bref k T=>bif Nat.beq S T&&Nat.beq f.offset 0 then .val true (.bref k f.type) else .fail
   | .aref k g j E path T=>bif Nat.beq S T&&afn st k g then .val true (.aref k g j E (path++[i]) f.type) else .fail
   | _=>.fail
  | none=>.fail
 | _=>.fail
def ajj (P:Program) (S:TypeId) (i:Nat) (a:SV):Ac:=
 match P.underlying S with
 | some (.struct h)=>
  match h[i]? with
  | some f=>
   bif ace P S&&aa0 P f.type then
    match a with
    | .data T v=>bif Nat.beq S T then .val true (ofPV P f.type (v.fld i)) else .fail
    | .agg T o=>bif Nat.beq S T then (match o[i]? with | some v=>.val true v | none=>.fail) else .fail
    | _=>.fail
   else .fail
  | none=>.fail
 | _=>.fail
def aab (i:Int) (n:Nat):Bool:=decide (0<=i/\i<n)
def ani (P:Program) (T:TypeId) (x i:SV):Option (Bool×SV):=
 match P.underlying T,x,i with
 | some (.array n E),.ref k [] h,.int _ i=>bif Nat.beq T h&&aa0 P E then some (aab i n,.eref k i.toNat E) else none
 | _,_,_=>none
def aru (o:Operand):Bool:=match o with | .const _=>true | _=>false
def anj (P:Program) (T:TypeId) (o:Bool) (x i:SV):Option (Bool×SV):=
 bif !o then none else
 match P.underlying T,x,i with
 | some (.array n E),.ref k path h,.int _ i=>(match arrF P n E with | some _=>(bif Nat.beq T h&&aa0 P E&&decide (0<=i)&&Nat.blt i.toNat n then some (true,.ref k (path++[i.toNat]) E) else none) | none=>none)
 | _,_,_=>none
def ag4 (P:Program) (T:TypeId) (st:List BX) (x i:SV):Option (Bool×SV):=
 match P.underlying T,x,i with
 | some (.slice E),.arr k g h,.int _ i=>(match aee st k g E with | some xs=>(bif Nat.beq E h&&aa0 P E then some (aab i xs.length,.aref k g i.toNat E [] E) else none) | none=>none)
 | some (.slice E),.avw k g o h,.int _ i=>(match aee st k g E with | some xs=>(bif Nat.beq E h&&aa0 P E then some (aab i (xs.length-o),.aref k g (o+i.toNat) E [] E) else none) | none=>none)
 | _,_,_=>none
def acx (P:Program) (T:TypeId) (st:List BX) (x i:SV):Ac:=
 match ani P T x i with
 | some r=>.val r.1 r.2
 | none=>
 match ag4 P T st x i with
 | some r=>.val r.1 r.2
 | none=>
 match P.underlying T,ame x,i with
 | some (.slice E),some xs,.int _ i=>bif al9 P E x&&!(Nat.beq (P.cellsOf E) 0) then .val (aab i xs.length) (.pto E (xs.getD i.toNat .bad)) else .fail
 | _,_,_=>.fail
def ajl (P:Program) (T:TypeId) (x i:SV):Ac:=
 match P.underlying T,x,i with
 | some .string,.str s,.int _ i=>.val (aab i s.length) (.int .u8 (s.getD i.toNat 0).toNat)
 | some (.array n E),.data h v,.int _ i=>bif Nat.beq T h&&aa0 P E&&Nat.beq (P.cellsOf T) (n*P.cellsOf E) then .val (aab i n) (ofPV P E (v.fld i.toNat)) else .fail
 | _,_,_=>.fail
def bnd (x:Option SV) (dflt:Int):Option Int:=
 match x with
 | none=>some dflt
 | some (.int _ n)=>some n
 | some _=>none
def ajz (P:Program) (T:TypeId) (x:SV) (H z:Option SV):Option (Bool×SV):=
 match P.underlying T,x with
 | some (.array n E),.ref k [] o=>
  match bnd H 0,bnd z n with
  | some l,some h=>bif Nat.beq T o&&aa0 P E then some (decide (0<=l/\l<n/\l<=h/\h<=n),.asl k l.toNat (h.toNat-l.toNat) E) else none
  | _,_=>none
 | _,_=>none
def aze (P:Program) (T:TypeId) (x:SV) (z o H:Option SV):Option (Bool×SV):=
 match P.underlying T,x,z,o,H with
 | some (.slice E),.acc k g h xs,some (.int _ l),none,none=>(bif Nat.beq E h&&!(Nat.beq (P.cellsOf E) 0) then some (decide (0<=l/\l<=xs.length),.acc k g E (xs.drop l.toNat)) else none)
 | _,_,_,_,_=>none
def asp (P:Program) (op:Op) (o:Operand->SV) (st:List BX):Option (Bool×SV×List BX):=
 match op with
 | .slice T x none (some h) none=>
  match P.underlying T,o x,o h with
  | some (.slice E),.arr k g z,.int _ h=>(match aee st k g E with | some xs=>(bif Nat.beq E z&&!(Nat.beq (P.cellsOf E) 0) then some (decide (0<=h/\h<=xs.length),.arr k (g+1) E,st.set k (.arr E (g+1) (xs.take h.toNat))) else none) | none=>none)
  | _,_,_=>none
 | .slice T x (some l) none none=>
  match P.underlying T,o x,o l with
  | some (.slice E),.arr k g z,.int _ l=>(match aee st k g E with | some xs=>(bif Nat.beq E z&&!(Nat.beq (P.cellsOf E) 0) then some (decide (0<=l/\l<xs.length),.avw k g l.toNat E,st) else none) | none=>none)
  | _,_,_=>none
 | _=>none
def ae4 (P:Program) (st:List BX) (T:TypeId) (x:SV):Ac:=
 match P.underlying T,x with
 | some (.slice E),.avw k g h o=>
  match aee st k g E with
  | some xs=>bif Nat.beq E o&&ab3 P E&&isOf P E (aa1 P 12 E)&&!(Nat.beq (P.cellsOf E) 0) then .upd (decide (h<xs.length)) (.tup []) (st.set k (.arr E g (xs.take h++List.replicate (xs.length-h) (toPV (aa1 P 12 E))))) else .fail
  | none=>.fail
 | _,_=>.fail
def ah7 (P:Program) (T:TypeId) (x:SV) (z o H:Option SV):Ac:=
 match H with
 | some _=>.fail
 | none=>
  match ajz P T x z o with
  | some r=>.val r.1 r.2
  | none=>
  match P.underlying T,x with
  | some .string,.str s=>
   match bnd z 0,bnd o s.length with
   | some l,some h=>.val (decide (0<=l/\l<=h/\h<=s.length)) (.str ((s.take h.toNat).drop l.toNat))
   | _,_=>.fail
  | some (.slice E),_=>
   match ame x with
   | some xs=>
    match bnd z 0,bnd o xs.length with
    | some l,some h=>bif al9 P E x&&!(Nat.beq (P.cellsOf E) 0) then .val (decide (0<=l/\l<=h/\h<=xs.length)) (.slice E ((xs.take h.toNat).drop l.toNat)) else .fail
    | _,_=>.fail
   | none=>.fail
  | _,_=>.fail
def ad3 (a b:PV):Bool:=
 match a,b with
 | .str x,.str y=>x==y
 | .int x,.int y=>x==y
 | .bool x,.bool y=>x==y
 | _,_=>false
def an8:List PV->List PV->Bool
 | [],[]=>true
 | x::xs,y::ys=>bif ad3 x y then an8 xs ys else false
 | _,_=>false
def agy (a b:PV):Bool:=
 match a,b with
 | .agg xs,.agg ys=>an8 xs ys
 | a,b=>ad3 a b
def PV.mget (es:List (PV×PV)) (k:PV):Option PV:=(es.find? λe=>agy k e.1).map (·.2)
def PV.mhas (es:List (PV×PV)) (k:PV):Bool:=(PV.mget es k).isSome
def PV.mput:List (PV×PV)->PV->PV->List (PV×PV)
 | [],k,v=>[(k,v)]
 | e::r,k,v=>bif agy k e.1 then (e.1,v)::r else e::PV.mput r k v
def PV.midx:List (PV×PV)->PV->Nat
 | [],_=>0
 | e::r,k=>bif agy k e.1 then 0 else PV.midx r k+1
def PV.mset (es:List (PV×PV)) (n:Nat) (v:PV):List (PV×PV):=match es[n]? with | some e=>es.set n (e.1,v) | none=>es
def au3 (P:Program) (K:TypeId):Bool:=
 match P.underlying K with
 | some .string | some (.int _) | some .bool=>true
 | _=>false
def keyT (P:Program) (K:TypeId):Bool:=
 match P.underlying K with
 | some .string | some (.int _) | some .bool=>true
 | some (.struct h)=>ace P K&&h.toList.all (λf=>au3 P f.type&&!(f.name== "_"))&&!(P.stoodInHeld K)
 | _=>false
def ajm (P:Program) (E:TypeId) (es:List (PV×PV)) (k:PV) (h:Bool):SV:=
 let v:=ofPV P E ((PV.mget es k).getD (toPV (aa1 P 12 E)))
 bif h then .tup [v,.bool (PV.mhas es k)] else v
def ac1 (P:Program) (T:TypeId) (st:List BX) (m k:SV) (z:Bool):Ac:=
 match P.underlying T with
 | some (.map K E)=>
  bif keyT P K&&isOf P K k&&ab3 P E&&isOf P E (aa1 P 12 E) then
   match m with
   | .map o h es=>bif Nat.beq K o&&Nat.beq E h then .val true (ajm P E es (toPV k) z) else .fail
   | .mref j=>match st[j]? with | some (.map o h es)=>bif Nat.beq K o&&Nat.beq E h then .val true (ajm P E es (toPV k) z) else .fail | _=>.fail
   | _=>.fail
  else .fail
 | _=>.fail
def abv (P:Program) (T:TypeId) (st:List BX) (m k v:SV):Ac:=
 match P.underlying T with
 | some (.map K E)=>
  bif keyT P K&&isOf P K k&&isOf P E v then
   match m with
   | .mref j=>match st[j]? with | some (.map K' E' es)=>bif Nat.beq K K'&&Nat.beq E E' then .upd true .undef (st.set j (.map K E (PV.mput es (toPV k) (toPV v)))) else .fail | _=>.fail
   | _=>.fail
  else .fail
 | _=>.fail
def ab9 (P:Program) (T:TypeId) (st:List BX) (m k:SV):Ac:=
 match P.underlying T with
 | some (.map K E)=>
  bif keyT P K&&isOf P K k&&ab3 P E&&isOf P E (aa1 P 12 E) then
   match m with
   | .mref j=>match st[j]? with | some (.map K' E' es)=>bif Nat.beq K K'&&Nat.beq E E' then .upd true (.tup [.undef,.int .i64 ((PV.midx es (toPV k):Nat):Int)]) (st.set j (.map K E (PV.mput es (toPV k) ((PV.mget es (toPV k)).getD (toPV (aa1 P 12 E)))))) else .fail | _=>.fail
   | _=>.fail
  else .fail
 | _=>.fail
def aby (P:Program) (T:TypeId) (st:List BX) (m s v:SV):Ac:=
 match P.underlying T with
 | some (.map K E)=>
  bif isOf P E v then
   match m,s with
   | .mref j,.int .i64 n=>match st[j]? with | some (.map K' E' es)=>bif Nat.beq K K'&&Nat.beq E E' then .upd (aab n es.length) .undef (st.set j (.map K E (PV.mset es n.toNat (toPV v)))) else .fail | _=>.fail
   | _,_=>.fail
  else .fail
 | _=>.fail
def ajo (P:Program) (T:TypeId) (st:List BX) (x:SV):Ac:=
 match P.underlying T,x with
 | some .string,.str s=>.upd true (.iref st.length) (st++[.iter s 0])
 | some (.map K E),.map o h es=>bif Nat.beq K o&&Nat.beq E h then .upd true (.mitr st.length) (st++[.mit K E none es]) else .fail
 | _,_=>.fail
def aoi (st:List BX) (x:SV) (h:Bool):Ac:=
 match x,h with
 | .iref k,true=>
  match st[k]? with
  | some (.iter s p)=>.upd true (.nx (decide (p<s.length)) p (Utf8.decode ⟨s.toArray⟩ p).1) (st.set k (.iter s (bif decide (p<s.length) then p+(Utf8.decode ⟨s.toArray⟩ p).2 else p)))
  | _=>.fail
 | .mitr k,false=>
  match st[k]? with
  | some (.mit _ _ _ es)=>.upd es.isEmpty (.tup [.bool false]) st
  | _=>.fail
 | _,_=>.fail
def ala (P:Program) (st:List BX) (x:SV):Ac:=
 match x with
 | .mitr k=>(match st[k]? with | some (.mit K E (some e) _)=>.val true (.tup [ofPV P K e.1,ofPV P E e.2]) | _=>.fail)
 | _=>.fail
def ahs (t:SV) (i:Nat):Ac:=
 match t with
 | .tup h=>(match h[i]? with | some v=>.val true v | none=>.fail)
 | .nx b p c=>(match i with | 0=>.val true (.bool b) | 1=>.val b (.int .i64 p) | 2=>.val b (.int .i32 c) | _=>.fail)
 | _=>.fail
def bek (x:SV) (j:Nat):Bool:=match x with | .arr k _ _=>Nat.beq k j | _=>false
def acb (P:Program) (st:List BX) (T:TypeId) (x y:SV):Ac:=
 match y with
 | .lits E [s]=>
  match amp s with
  | [j]=>
   match st[j]? with
   | some (.arr F g _)=>bif aaj P E&&isOf P E (frzS st s)&&!(bek x j) then acn P (st.set j (.arr F (g+1) [])) T x (.lit E [toPV (frzS st s)]) else .fail
   | _=>.fail
  | _=>.fail
 | y=>acn P st T x y
def ai4 (c:Call) (h:Operand->SV) (P:Program) (st:List BX):Ac:=
 match c.callee with
 | .value (.func f)=>.call f (c.args.toList.map h)
 | .value x=>match h x with | .fn f n caps=>.call f (caps.take n++(c.args.toList.map h++caps.drop n)) | _=>.fail
 | .builtin .len=>match c.args.toList,c.argTypes.toList with | [x],[T]=>arz P T st (h x) | _,_=>.fail
 | .builtin .append=>match c.args.toList,c.argTypes.toList with | [x,y],[T,T']=>bif Nat.beq T T' then acb P st T (h x) (h y) else .fail | _,_=>.fail
 | .builtin .clear=>match c.args.toList,c.argTypes.toList with | [x],[T]=>ae4 P st T (h x) | _,_=>.fail
 | .builtin .min=>ad1 false (c.args.toList.map h)
 | .builtin .max=>ad1 true (c.args.toList.map h)
 | _=>.fail
def aer (fn:Fn) (first cs:List SV):Ac:=
 match fn with
 | .func f=>.val true (.fn f first.length (first++cs))
 | _=>.fail
def ad4 (P:Program) (T:TypeId) (r:Option Operand) (st:List BX):Ac:=
 match P.underlying T,r with
 | some (.map K E),none=>.upd true (.mref st.length) (st++[.map K E []])
 | _,_=>.fail
def ahm (P:Program) (T:TypeId) (st:List BX):Ac:=
 bif ai6 P T then .upd true (.bref st.length T) (st++[.bld T []]) else bif ab3 P T then .upd true (.ref st.length [] T) (st++[.box T (aa1 P 12 T)]) else .fail
def amb (P:Program):Nat->TypeId->SV->Bool
 | 0,_,_=>false
 | n+1,T,s=>
  match P.underlying T,s with
  | some (.struct o),.agg h z=>
   Nat.beq T h&&(match o.toList,z with
   | [f],[x]=>Nat.beq f.offset 0&&Nat.beq (P.cellsOf f.type) (P.cellsOf T)&&aaj P f.type&&amb P n f.type x
   | [f,g],[.raw (.pointer none),.nils]=>!(aaj P f.type)&&!(aaj P g.type)&&Nat.beq f.offset 0&&Nat.beq g.offset 1&&Nat.beq (P.cellsOf f.type) 1&&Nat.beq (P.cellsOf g.type) 1&&Nat.beq (P.cellsOf T) 2
   | _,_=>false)
  | _,_=>false
def ata (P:Program) (T:TypeId) (s:SV) (st:List BX):Ac:=
 bif ai6 P T&&amb P 3 T s then .upd true (.bref st.length T) (st++[.bld T []]) else bif afd P T s then .upd true (.ref st.length [] T) (st++[.box T s]) else .fail
def adf (P:Program) (T:TypeId) (h cap:SV) (st:List BX):Ac:=
 match P.underlying T,h,cap with
 | some (.slice E),.int .i64 0,.int .i64 c=>bif ab3 P E&&!(Nat.beq (P.cellsOf E) 0)&&Nat.ble (P.bytesOf E) 512 then .upd (decide (0<=c/\c<=aae)) (.acc st.length 0 E []) (st++[.acc 0]) else .fail
 | _,_,_=>.fail
def ahy (P:Program) (T:TypeId) (s:SV):Ac:=
 match P.underlying T with
 | none=>.fail
 | some (.interface _)=>.fail
 | some _=>.val true (.ifc T s)
def aom (s:SV):Ac:=
 match s with
 | .ifc T x=>.pan (.ifc T x)
 | _=>.fail
def ae7 (P:Program) (T:TypeId) (h cap:SV) (st:List BX):Ac:=
 match P.underlying T,h,cap with
 | some (.slice E),.int .i64 n,.int .i64 c=>
  bif ab3 P E&&isOf P E (aa1 P 12 E)&&!(Nat.beq (P.cellsOf E) 0)&&Nat.ble (P.bytesOf E) 512 then
   .upd (decide (0<=n/\n<=c/\c<=aae)) (.arr st.length 0 E) (st++[.arr E 0 (List.replicate n.toNat (toPV (aa1 P 12 E)))]) else .fail
 | _,_,_=>.fail
def a3w (n:Operand):Bool:=match n with | .const (.int .i64 0)=>true | _=>false
def ac (P:Program) (op:Op) (h ρt ρf:Operand->SV) (st:List BX):Ac:=
 match op with
 | .move x | .assign x=>.val true (h x)
 | .pick c x y=>
  match h c,ρt x,ρf y with
  | .bool b,.bool p,.bool q=>.val true (.bool (bif b then p else q))
  | _,_,_=>.fail
 | .alloc T=>ahm P T st
 | .box T x=>ata P T (h x) st
 | .makeSlice T n c=>bif a3w n then adf P T (h n) (h c) st else ae7 P T (h n) (h c) st
 | .build T o=>aje P T (o.toList.map λ(i,x)=>(i,h x))
 | .buildSlice T n o=>acu P T n (o.toList.map λ(i,x)=>(i,h x))
 | .load T a=>ahb P T st (h a)
 | .store T a x=>aeb P T st (h a) (h x)
 | .nilCheck x=>match h x with | .ref k p T=>.val true (.ref k p T) | .pto T v=>.val true (.pto T v) | .fn f n cs=>.val true (.fn f n cs) | .bref k T=>.val true (.bref k T) | .aref k g i E p T=>(bif afn st k g then .val true (.aref k g i E p T) else .fail) | _=>.fail
 | .binOp b T x y _=>anm P b T y (h x) (h y)
 | .unOp u _ x=>unAc u (h x)
 | .convert s d x=>afg P st s d (h x)
 | .makeFunc fn first cs=>aer fn (first.toList.map h) (cs.toList.map h)
 | .makeMap T r=>ad4 P T r st
 | .slice T x H z I=>(match aze P T (h x) (H.map h) (z.map h) (I.map h) with | some r=>.val r.1 r.2 | none=>ah7 P T (h x) (H.map h) (z.map h) (I.map h))
 | .fieldAddr S x i=>acv P st S i (h x)
 | .field S x i=>ajj P S i (h x)
 | .indexAddr T x i=>(match anj P T (aru i) (h x) (h i) with | some r=>.val r.1 r.2 | none=>acx P T st (h x) (h i))
 | .index T x i=>ajl P T (h x) (h i)
 | .lookup T m k J=>ac1 P T st (h m) (h k) J
 | .insert T m k v | .mapUpdate T m k v=>abv P T st (h m) (h k) (h v)
 | .mapEntry T m k=>ab9 P T st (h m) (h k)
 | .entryStore T m s v=>aby P T st (h m) (h s) (h v)
 | .extract t i=>ahs (h t) i
 | .range T x=>ajo P T st (h x)
 | .next x b=>aoi st (h x) b
 | .entry x=>ala P st (h x)
 | .call c=>ai4 c h P st
 | .makeInterface T x=>ahy P T (h x)
 | .panic x=>aom (h x)
 | _=>.fail
def aj2 (P:Program) (T:Option TypeId) (s:SV):Option SV:=
 match s with
 | .bool _ | .int _ _ | .str _ | .slice _ _ | .data _ _ | .map _ _ _ | .raw _ | .pto _ _ | .eif _=>some s
 | .acc _ _ E xs=>some (.slice E xs)
 | .lit E xs=>some (.slice E xs)
 | .sln E xs=>some (.slice E xs)
 | .nils=>match T with | some T=>(match P.underlying T with | some (.slice E)=>some (.slice E []) | _=>none) | none=>none
 | .agg h _=>bif isOf P h s then some (.data h (toPV s)) else none
 | _=>none
mutual
def leads (acc:Bool) (st:List BX):SV->List Nat
 | .ref k _ _=>[k]
 | .bref k _=>[k]
 | .mref k=>[k]
 | .arr k _ _=>[k]
 | .aref k _ _ _ _ _=>[k]
 | .eref k _ _=>[k]
 | .asl k _ _ _=>[k]
 | .acc k g _ _=>bif acc&&anh st k g then [k] else []
 | .fn _ _ caps=>aga acc st caps
 | .agg _ h=>aga acc st h
 | .ifc _ s=>leads acc st s
 | .pan s=>leads acc st s
 | _=>[]
def aga (acc:Bool) (st:List BX):List SV->List Nat
 | []=>[]
 | s::r=>leads acc st s++aga acc st r
end
def a4j (st:List BX) (k:Nat):List Nat:=match st[k]? with | some (.box _ s)=>leads true st s | _=>[]
def afy (ks:List Nat):List Nat->List Nat
 | []=>ks
 | k::r=>afy (bif ks.any (Nat.beq k) then ks else ks++[k]) r
def reach (st:List BX):Nat->List Nat->List Nat
 | 0,ks=>ks
 | n+1,ks=>reach st n (afy ks (ks.flatMap (a4j st)))
def aap (st:List BX) (args:List SV):List Nat:=reach st 4 (afy [] (aga false st args))
def idx (k:Nat):List Nat->Nat
 | []=>0
 | x::r=>bif Nat.beq k x then 0 else idx k r+1
def acd (ks:List Nat) (k:Nat):Option Nat:=bif ks.any (Nat.beq k) then some (idx k ks) else none
mutual
def renS (st:List BX) (h:Nat->Option Nat) (o:Nat->Nat):SV->Option SV
 | .acc k g E xs=>some (match h k with | some k'=>(bif anh st k g then .acc k' (o k) E xs else .slice E xs) | none=>.slice E xs)
 | .ref k p T=>match h k with | some k'=>some (.ref k' p T) | none=>none
 | .bref k T=>match h k with | some k'=>some (.bref k' T) | none=>none
 | .mref k=>match h k with | some k'=>some (.mref k') | none=>none
 | .arr k g E=>match h k with | some k'=>(bif afn st k g then some (.arr k' (o k) E) else none) | none=>none
 | .aref k g i E p T=>match h k with | some k'=>(bif afn st k g then some (.aref k' (o k) i E p T) else none) | none=>none
 | .eref k i E=>match h k with | some k'=>some (.eref k' i E) | none=>none
 | .asl k H n E=>match h k with | some k'=>some (.asl k' H n E) | none=>none
 | .fn f n caps=>match renL st h o caps with | some cs=>some (.fn f n cs) | none=>none
 | .agg T z=>match renL st h o z with | some gs=>some (.agg T gs) | none=>none
 | .lit E xs=>some (.slice E xs)
 | .sln E xs=>some (.slice E xs)
 | .ifc T s=>match renS st h o s with | some x=>some (.ifc T x) | none=>none
 | .pan s=>match renS st h o s with | some x=>some (.pan x) | none=>none
 | .iref _=>none
 | .mitr _=>none
 | .gd _ _ _=>none
 | .nx _ _ _=>none
 | .tup _=>none
 | .avw _ _ _ _=>none
 | .lits _ _=>none
 | s=>some s
def renL (st:List BX) (o:Nat->Option Nat) (h:Nat->Nat):List SV->Option (List SV)
 | []=>some []
 | s::r=>match renS st o h s,renL st o h r with | some x,some q=>some (x::q) | _,_=>none
end
def ah4 (st:List BX) (o:Nat->Option Nat) (h:Nat->Nat) (k:Nat):BX->Option BX
 | .box T s=>match renS st o h s with | some x=>some (.box T x) | none=>none
 | .acc _=>some (.acc (h k))
 | .arr E _ xs=>some (.arr E (h k) xs)
 | .iter _ _=>none
 | .mit _ _ _ _=>none
 | b=>some b
def a5p (st:List BX) (o:Nat->Option Nat) (h:Nat->Nat):Nat->List BX->Option (List BX)
 | _,[]=>some []
 | k,b::r=>match ah4 st o h k b,a5p st o h (k+1) r with | some x,some q=>some (x::q) | _,_=>none
def ahh (st:List BX) (o:Nat->Option Nat) (h:Nat->Nat):List Nat->Option (List BX)
 | []=>some []
 | k::ks=>
  match st[k]? with
  | some b=>match ah4 st o h k b,ahh st o h ks with | some x,some q=>some (x::q) | _,_=>none
  | none=>none
def ac4 (n:Nat) (ks:List Nat) (j:Nat):Option Nat:=match ks[j]? with | some k=>some k | none=>some (n+(j-ks.length))
def ags (st:List BX) (ks:List Nat) (sub:List BX) (j:Nat):Nat:=
 match ks[j]? with
 | some k=>(match st[k]? with | some (.acc g)=>g+1 | some (.arr _ g _)=>(match sub[j]? with | some (.arr _ g' _)=>(bif Nat.beq g' 0 then g else g+1) | _=>g+1) | _=>0)
 | none=>0
def aji (st:List BX) (k:Nat):Nat:=match st[k]? with | some (.arr _ g _)=>(bif Nat.beq g 0 then 0 else 1) | _=>0
def aez (st:List BX) (ks:List Nat) (rs:List SV) (sub:List BX):Option (List SV×List BX):=
 match renL sub (ac4 st.length ks) (ags st ks sub) rs,a5p sub (ac4 st.length ks) (ags st ks sub) 0 sub with
 | some h,some bs=>some (h,bs)
 | _,_=>none
def afo (rs:List SV) (sub:List BX):Option (List SV):=match sub with | []=>renL [] (λ_=>none) (λ_=>0) rs | _=>none
def abu:List Nat->List BX->List BX->List BX
 | k::ks,b::bs,st=>abu ks bs (st.set k b)
 | [],bs,st=>st++bs
 | _::_,[],st=>st
def adg:List SV->SV
 | [x]=>x
 | xs=>.tup xs
def fork {R:Type} (rs:List SV) (k:Option R) (x:SV->Option R):Option R:=
 match rs with
 | [.pan s]=>x s
 | _=>k
inductive LEx where
 | exit (i:Nat)
 | ret
 | pan
structure Cfg where
 P:Program
 own:Bool
 n:Nat
 np:Nat
 call:(R:Type)->Bool->FuncId->List SV->List BX->(List SV->List BX->Option R)->Option R
 lam:(R:Type)->Nat->Env->List BX->(LEx->Env->List BX->Option R)->Option R
 frz:FuncId->Bool:=λ_=>false
def anx (n:Nat) (d:Option Nat):Bool:=match d with | some d=>Nat.blt d n | none=>true
def argTs (op:Op):List TypeId:=match op with | .call c=>c.argTypes.toList | _=>[]
def dsts (ops:List Oper):List Nat:=ops.filterMap (·.dst)
def a5s {R:Type} (C:Cfg) (ops:Array Oper) (o:Oper) (I:List Oper) (e:Env) (st:List BX) (K:Env->List BX->Option R) (X:SV->List BX->Option R):Option R:=
 bif anx C.n o.dst then
  match o.guard with
  | none=>
   match asp C.P o.op (opd e []) st with
   | some (c,v,st')=>bif c then K (put e o.dst v) st' else none
   | none=>
   match ac C.P o.op (opd e []) (match o.op with | .pick (.tmp t) _ _=>opd e [(t,true)] | _=>opd e []) (match o.op with | .pick (.tmp t) _ _=>opd e [(t,false)] | _=>opd e []) st with
   | .fail=>none
   | .val c v=>bif c then K (put e o.dst v) st else none
   | .upd c v st'=>bif c then K (put e o.dst v) st' else none
   | .pan v=>X v st
   | .call f args=>
    bif C.frz f&&Nat.beq C.np 0 then
     match renL st (λ_=>none) (λ_=>0) (frzL st args) with
     | some J=>(match renL [] (acd []) (λ_=>0) J with | some H=>(C.call R true f H [] λrs z=>(match afo rs z with | some rs'=>fork rs' (K (put (λ_=>.undef) o.dst (adg rs')) []) (λ_=>none) | none=>none)) | none=>none)
     | none=>none
    else
    match renL st (acd (aap st args)) (λ_=>0) args,ahh st (acd (aap st args)) (λ_=>0) (aap st args) with
    | some H,some sub=>C.call R true f H sub λrs z=>match aez st (aap st args) rs z with | some (rs',bs)=>fork rs' (K (put e o.dst (adg rs')) (abu (aap st args) bs st)) (λs=>X s (abu (aap st args) bs st)) | none=>none
    | _,_=>none
  | some (j,h)=>
   match (ops[j]?).bind (·.dst) with
   | none=>none
   | some t=>
    bif (dsts (o::I)).any (Nat.beq t) then none else
    match gval e 8 t h with
    | none=>none
    | some b=>
     match ac C.P o.op (opd e [(t,h)]) (match o.op with | .pick (.tmp u) _ _=>opd e [(u,true),(t,h)] | _=>opd e []) (match o.op with | .pick (.tmp u) _ _=>opd e [(u,false),(t,h)] | _=>opd e []) st with
     | .val c v=>bif imp b c then K (put e o.dst (.gd t h v)) st else none
     | .call f args=>
          match aap st args,renL st (acd []) (λ_=>0) args with
          | [],some H=>C.call R b f H [] λrs z=>match afo rs z with | some rs'=>fork rs' (K (put e o.dst (.gd t h (adg rs'))) st) (λ_=>none) | none=>none
          | _,_=>
           bif b then
            match renL st (acd (aap st args)) (λ_=>0) args,ahh st (acd (aap st args)) (λ_=>0) (aap st args) with
            | some H,some sub=>C.call R true f H sub λrs z=>match aez st (aap st args) rs z with | some (rs',bs)=>fork rs' (K (put e o.dst (.gd t h (adg rs'))) (abu (aap st args) bs st)) (λs=>X s (abu (aap st args) bs st)) | none=>none
            | _,_=>none
           else K (put e o.dst (.gd t h (aa1 C.P 12 o.type))) st
     | _=>none
 else none
def ajb {R:Type} (C:Cfg) (ops:Array Oper):List Oper->Env->List BX->(Env->List BX->Option R)->(SV->List BX->Option R)->Option R
 | [],e,st,K,_=>K e st
 | o::r,e,st,K,X=>a5s C ops o r e st (λe st=>ajb C ops r e st K X) X
def sweep (e:Env):Env:=λt=>match e t with | .gd _ _ _=>.undef | v=>v
def opV {R:Type} (C:Cfg) (ops:Array Oper) (o:Oper) (e:Env) (st:List BX) (K:SV->List BX->Option R) (X:SV->List BX->Option R):Option R:=
 match o.guard with
 | none=>
  match ac C.P o.op (opd e []) (match o.op with | .pick (.tmp t) _ _=>opd e [(t,true)] | _=>opd e []) (match o.op with | .pick (.tmp t) _ _=>opd e [(t,false)] | _=>opd e []) st with
  | .fail=>none
  | .val c v=>bif c then K v st else none
  | .upd c v st'=>bif c then K v st' else none
  | .pan _=>none
  | .call f args=>
   match renL st (acd (aap st args)) (λ_=>0) args,ahh st (acd (aap st args)) (λ_=>0) (aap st args) with
   | some H,some sub=>C.call R true f H sub λrs z=>match aez st (aap st args) rs z with | some (rs',bs)=>fork rs' (K (adg rs') (abu (aap st args) bs st)) (λs=>X s (abu (aap st args) bs st)) | none=>none
   | _,_=>none
 | some (j,h)=>
  match (ops[j]?).bind (·.dst) with
  | none=>none
  | some t=>
   match gval e 8 t h with
   | none=>none
   | some b=>
    match ac C.P o.op (opd e [(t,h)]) (match o.op with | .pick (.tmp u) _ _=>opd e [(u,true),(t,h)] | _=>opd e []) (match o.op with | .pick (.tmp u) _ _=>opd e [(u,false),(t,h)] | _=>opd e []) st with
    | .val c v=>bif imp b c then K (.gd t h v) st else none
    | .call f args=>
         match aap st args,renL st (acd []) (λ_=>0) args with
         | [],some H=>C.call R b f H [] λrs z=>match afo rs z with | some rs'=>fork rs' (K (.gd t h (adg rs')) st) (λ_=>none) | none=>none
         | _,_=>
          bif b then
           match renL st (acd (aap st args)) (λ_=>0) args,ahh st (acd (aap st args)) (λ_=>0) (aap st args) with
           | some H,some sub=>C.call R true f H sub λrs z=>match aez st (aap st args) rs z with | some (rs',bs)=>fork rs' (K (.gd t h (adg rs')) (abu (aap st args) bs st)) (λ_=>none) | none=>none
           | _,_=>none
          else K (.gd t h (aa1 C.P 12 o.type)) st
    | _=>none
def amc (op:Op):Bool:=match op with | .call _=>true | _=>false
def opW {R:Type} (C:Cfg) (ops:Array Oper) (o:Oper) (e:Env) (st:List BX) (K:SV->Option R):Option R:=
 match o.guard with
 | none=>
  match ac C.P o.op (opd e []) (match o.op with | .pick (.tmp t) _ _=>opd e [(t,true)] | _=>opd e []) (match o.op with | .pick (.tmp t) _ _=>opd e [(t,false)] | _=>opd e []) st with
  | .val c v=>bif c then K v else none
  | .call f args=>
   bif amc o.op then
    match aap st args,renL st (acd []) (λ_=>0) args with
    | [],some as=>C.call R true f as [] λrs z=>match afo rs z with | some rs'=>fork rs' (K (adg rs')) (λ_=>none) | none=>none
    | _,_=>none
   else none
  | _=>none
 | some (j,h)=>
  match (ops[j]?).bind (·.dst) with
  | none=>none
  | some t=>
   match gval e 8 t h with
   | none=>none
   | some b=>
    match ac C.P o.op (opd e [(t,h)]) (match o.op with | .pick (.tmp u) _ _=>opd e [(u,true),(t,h)] | _=>opd e []) (match o.op with | .pick (.tmp u) _ _=>opd e [(u,false),(t,h)] | _=>opd e []) st with
    | .val c v=>bif imp b c then K (.gd t h v) else none
    | .call f args=>
         bif amc o.op then
          match aap st args,renL st (acd []) (λ_=>0) args with
          | [],some as=>C.call R b f as [] λrs z=>match afo rs z with | some rs'=>fork rs' (K (.gd t h (adg rs'))) (λ_=>none) | none=>none
          | _,_=>none
         else none
    | _=>none
def agx (acc:List Nat):List Edge->Nat
 | []=>0
 | x::r=>bif Region.binds .any x then (2^x.on ||| acc.getD x.on 0) ||| agx acc r else agx acc r
def ancL:List Oper->List Nat->List Nat
 | [],acc=>acc
 | o::r,acc=>ancL r (acc++[agx acc o.after.toList])
def arb:List Oper->Nat->Bool
 | [],_=>true
 | o::r,j=>o.after.toList.all (λx=>!(Region.binds .any x)||Nat.blt x.on j)&&arb r (j+1)
def ay1:List Nat->Bool
 | []=>true
 | x::r=>!(r.any (Nat.beq x))&&ay1 r
def acp (t:Nat):List Oper->Nat->Option Nat
 | [],_=>none
 | o::r,i=>match o.dst with | some d=>(bif Nat.beq d t then some i else acp t r (i+1)) | none=>acp t r (i+1)
def adb (op:Op):Bool:=match op with | .alloc _=>true | .box _ _=>true | .makeMap _ _=>true | _=>false
def extV (P:Program) (op:Op) (h:Operand->SV) (k:Nat):Option (SV×BX):=
 match op with
 | .alloc T=>bif ai6 P T then some (.bref k T,.bld T []) else bif ab3 P T then some (.ref k [] T,.box T (aa1 P 12 T)) else none
 | .box T x=>bif ai6 P T&&amb P 3 T (h x) then some (.bref k T,.bld T []) else bif afd P T (h x) then some (.ref k [] T,.box T (h x)) else none
 | .makeMap T r=>match P.underlying T,r with | some (.map K E),none=>some (.mref k,.map K E []) | _,_=>none
 | _=>none
def a3v (op:Op):Bool:=
 match op with
 | .alloc _=>true | .box _ _=>true | .makeMap _ _=>true | .makeSlice _ _ _=>true | .store _ _ _=>true | .insert _ _ _ _=>true | .mapUpdate _ _ _ _=>true | .mapEntry _ _ _=>true | .entryStore _ _ _ _=>true | .range _ _=>true | .next _ _=>true
 | .call c=>(match c.callee with | .builtin .append=>true | .builtin .clear=>true | _=>false)
 | _=>false
def bca (op:Op):Bool:=match op with | .call c=>(match c.callee with | .value _=>true | _=>false) | _=>false
def bdz (op:Op):Bool:=match op with | .load _ _=>true | .lookup _ _ _ _=>true | .call _=>true | _=>false
structure DI where
 l:List Oper
 anc:List Nat
def DI.lt (d:DI) (i j:Nat):Bool:=Nat.blt i j&&Nat.testBit (d.anc.getD j 0) i
def DI.cmp (d:DI) (i j:Nat):Bool:=bif Nat.beq i j then true else bif Nat.blt i j then d.lt i j else d.lt j i
def ak5 (f:Nat->Oper->Bool):List Oper->Nat->Bool
 | [],_=>true
 | o::r,i=>f i o&&ak5 f r (i+1)
def bdx (op:Op):Bool:=match op with | .load _ _=>true | _=>false
def DI.upd (d:DI) (j:Nat) (o:Oper):Bool:=a3v o.op||(bca o.op&&ak5 (λi x=>!(a3v x.op||bdz x.op)||d.cmp i j||(bdx x.op&&x.guard.isNone&&o.guard.isNone)) d.l 0)
def DI.soft (d:DI) (o:Oper):Bool:=match o.op with | .store _ (.tmp t) _=>(match acp t d.l 0 with | some i=>(match d.l[i]? with | some x=>adb x.op | none=>false) | none=>false) | _=>false
def DI.isA (d:DI) (j:Nat):Bool:=ak5 (λi x=>!(d.upd i x)||d.cmp i j) d.l 0
def DI.isN (d:DI) (j:Nat):Bool:=ak5 (λi x=>!(d.upd i x&&!(adb x.op))||d.cmp i j) d.l 0
def DI.isB (d:DI) (j:Nat):Bool:=ak5 (λi x=>!(d.upd i x&&!(adb x.op||d.soft x))||d.cmp i j) d.l 0
def a4r (h:Nat) (o:Oper) (e:Env):Bool:=match o.op with | .store _ a _=>(match opd e [] a with | .ref k _ _=>Nat.ble h k | _=>false) | _=>false
def DI.mask (d:DI) (j:Nat) (e:Env):Env:=λt=>match acp t d.l 0 with | some i=>(bif d.cmp i j then e t else .undef) | none=>e t
def gdOk (d:DI) (j:Nat) (o:Oper):Bool:=match o.guard with | some (g,_)=>d.lt g j | none=>true
def DI.last (d:DI) (j:Nat):Bool:=ak5 (λi _=>Nat.ble i j||d.lt j i) d.l 0
def aqm:SV->Option Nat
 | .ref k _ _=>some k
 | .eref k _ _=>some k
 | .aref k _ _ _ _ _=>some k
 | _=>none
structure LM where
 j:Nat
 T:TypeId
 a:SV
 k:Nat
 v:SV
 u:Bool
 f:Nat->Bool
 q:Option SV
def rdAc (P:Program) (p:LM) (st:List BX):Ac:=match p.q with | none=>ahb P p.T st p.a | some key=>ac1 P p.T st p.a key false
def a5j (p:LM):Option Nat:=match p.q with | none=>aqm p.a | some _=>(match p.a with | .mref k=>some k | _=>none)
def arv (op:Op):Bool:=match op with | .mapEntry _ _ _=>true | _=>false
def auc (h:List LM) (i k:Nat):Bool:=h.any λp=>p.u&&Nat.beq p.j i&&p.f k
def lmOf (d:DI) (z j:Nat) (o:Oper) (e:Env) (h:List LM):Option LM:=
 match o.guard,o.op with
 | none,.load T a=>
  match aqm (opd e [] a) with
  | some k=>bif Nat.blt k z&&!(d.isA j)&&!(d.isB j)&&ak5 (λi x=>!(d.upd i x)||Nat.ble j i||d.cmp i j||auc h i k) d.l 0 then some ⟨j,T,opd e [] a,k,.undef,false,λ_=>false,none⟩ else none
  | none=>none
 | none,.lookup T m x false=>
  match opd e [] m with
  | .mref k=>bif Nat.blt k z&&!(d.isA j)&&!(d.isB j)&&ak5 (λi x=>!(d.upd i x)||Nat.ble j i||d.cmp i j||auc h i k) d.l 0 then some ⟨j,T,.mref k,k,.undef,false,λ_=>false,some (opd e [] x)⟩ else none
  | _=>none
 | _,_=>none
def axg (a:Ac) (v:SV):Bool:=
 match a,v with
 | .val true (.arr k g E),.arr z o h=>Nat.beq k z&&Nat.beq g o&&Nat.beq E h
 | _,_=>false
def bdw (y:SV):Bool:=match y with | .lits _ _=>true | _=>false
def ay2 (op:Op) (e:Env) (k:Nat):Bool:=
 match op with
 | .store _ a x=>(match aqm (opd e [] a) with | some i=>!(Nat.beq i k)&&!((amp (opd e [] x)).any (Nat.beq k)) | none=>false)
 | .call c=>
  match c.callee,c.args.toList with
  | .builtin .append,[x,y]=>!(bdw (opd e [] y))&&(match opd e [] x with | .acc j _ _ _=>!(Nat.beq j k) | .arr j _ _=>!(Nat.beq j k) | .nils=>true | .lit _ _=>true | _=>false)
  | _,_=>false
 | _=>false
def ajn (C:Cfg) (o:Oper) (e:Env) (st:List BX) (k:Nat):Bool:=
 match o.guard,ac C.P o.op (opd e []) (match o.op with | .pick (.tmp t) _ _=>opd e [(t,true)] | _=>opd e []) (match o.op with | .pick (.tmp t) _ _=>opd e [(t,false)] | _=>opd e []) st with
 | none,.call _ args=>!((aap st args).any (Nat.beq k))
 | none,.upd _ _ _=>ay2 o.op e k
 | _,_=>false
def lmOk (C:Cfg) (d:DI) (j:Nat) (o:Oper) (e:Env) (st st':List BX) (h:List LM):Bool:=
 h.all λp=>p.u||d.cmp p.j j||adb o.op||d.soft o||ajn C o e st p.k||axg (rdAc C.P p st') p.v||(p.q.isSome&&arv o.op)
def runD {R:Type} (C:Cfg) (d:DI) (ops:Array Oper) (h:Nat):List Oper->Nat->Env->List BX->List LM->(Env->List BX->Option R)->(SV->List BX->Option R)->Option R
 | [],_,e,st,_,K,_=>K e st
 | o::r,j,e,st,lk,K,X=>
  bif anx C.n o.dst&&gdOk d j o then
   bif d.upd j o then
    bif (bif adb o.op then d.isN j else d.isA j)&&Nat.ble h st.length&&(!(d.soft o)||a4r h o (d.mask j e)) then
     opV C ops o (d.mask j e) st (λv st'=>bif Nat.ble h st'.length&&lmOk C d j o (d.mask j e) st st' lk then runD C d ops h r (j+1) (put e o.dst v) st' (lk++[⟨j,0,.undef,0,.undef,true,λk=>ajn C o (d.mask j e) st k,none⟩]) K X else none) (λs st'=>bif d.last j&&!(adb o.op) then X s st' else none)
    else none
   else
    match lmOf d h j o (d.mask j e) lk with
    | some p=>opW C ops o (d.mask j e) st λv=>runD C d ops h r (j+1) (put e o.dst v) st (lk++[{ p with v:=v }]) K X
    | none=>opW C ops o (d.mask j e) (bif d.isA j then st else st.take (bif d.isB j then h else 0)) λv=>runD C d ops h r (j+1) (put e o.dst v) st lk K X
  else none
def mkDI (ops:Array Oper):DI:={ l:=ops.toList,anc:=ancL ops.toList [] }
def atn (P:Program) (ops:Array Oper):Bool:=P.follows .mixedOrders&&arb ops.toList 0&&ay1 (dsts ops.toList)
def runR {R:Type} (C:Cfg) (ops:Array Oper) (h:Bool) (e:Env) (st:List BX) (K:Env->List BX->Option R) (X:SV->List BX->Option R):Option R:=
 bif h then (bif atn C.P ops then runD C (mkDI ops) ops st.length ops.toList 0 e st [] K X else none) else ajb C ops ops.toList e st K X
structure Ks (R:Type) where
 norm:Env->List BX->Option R
 exit:Nat->Env->List BX->Option R
 ret:Env->List BX->Option R
 pan:SV->List BX->Option R
def ahw:Code->Nat
 | .region id _ _=>id+1
 | .seq a b=>match ahw a with | 0=>ahw b | n=>n
 | .block _ c=>ahw c
 | .cond _ a b=>match ahw a with | 0=>ahw b | n=>n
 | .loop c=>ahw c
 | .scope c=>ahw c
 | _=>0
def exec {R:Type} (C:Cfg):Code->Ks R->Env->List BX->Option R
 | .skip,K,e,st=>K.norm e st
 | .region _ ops o,K,e,st=>runR C ops o e st (λe st=>K.norm (sweep e) st) K.pan
 | .seq a b,K,e,st=>exec C a { norm:=exec C b K,exit:=K.exit,ret:=K.ret,pan:=K.pan } e st
 | .cond c x y,K,e,st=>
  match c with
  | .tmp t=>match e t with | .bool b=>bif b then exec C x K (e.set t (.bool true)) st else exec C y K (e.set t (.bool false)) st | _=>none
  | .const (.bool b)=>bif b then exec C x K e st else exec C y K e st
  | _=>none
 | .block id h,K,e,st=>exec C h { norm:=K.norm,exit:=λi e st=>bif Nat.beq i id then K.norm e st else K.exit i e st,ret:=K.ret,pan:=K.pan } e st
 | .loop h,K,e,st=>C.lam R (ahw h) e st λx e st=>match x with | .exit i=>K.exit i e st | .ret=>K.ret e st | .pan=>K.pan (e 0) st
 | .exit i,K,e,st=>K.exit i e st
 | .ret,K,e,st=>K.ret e st
 | _,_,_,_=>none
def bbi (P:Program) (e:Env) (st:List BX) (r:ResultVar):Option SV:=
 match r with
 | .tmp t=>match e t with | .gd _ _ _=>none | s=>some s
 | .cell t h=>match e t with
  | .ref k [] o=>bif Nat.beq h o&&(P.underlying h).isSome&&(aaj P h||Nat.beq (P.cellsOf h) 1) then (match st[k]? with | some (.box _ s)=>some s | _=>none) else none
  | _=>none
def aus (P:Program) (e:Env) (st:List BX):List ResultVar->Option (List SV)
 | []=>some []
 | r::rs=>match bbi P e st r,aus P e st rs with | some x,some q=>some (x::q) | _,_=>none
def bcw (P:Program) (own:Bool) (st:List BX) (T:TypeId) (s:SV):Option SV:=
 match s with
 | .mref k=>match st[k]? with | some (.map K E es)=>some (.map K E es) | _=>none
 | .arr k g E=>bif own then some (.arr k g E) else (match aee st k g E with | some xs=>some (.slice E xs) | none=>none)
 | .pto _ _=>none
 | .ref k p h=>some (.ref k p h)
 | .bref k h=>some (.bref k h)
 | .agg h o=>bif own then (match aj2 P (some T) (.agg h o) with | some x=>some x | none=>some (.agg h o)) else (match aj2 P (some T) (frzS st (.agg h o)) with | some x=>some x | none=>some (frzS st (.agg h o)))
 | .nils=>bif own then some .nils else aj2 P (some T) .nils
 | .acc k g E xs=>bif own then some (.acc k g E xs) else aj2 P (some T) (.acc k g E xs)
 | s=>aj2 P (some T) s
def ajq (P:Program) (own:Bool) (st:List BX):List TypeId->List SV->Option (List SV)
 | [],[]=>some []
 | T::ts,s::ss=>match bcw P own st T s,ajq P own st ts ss with | some x,some q=>some (x::q) | _,_=>none
 | _,_=>none
def ac6 (own:Bool):List SV->List Nat
 | []=>[]
 | .mref k::r=>k::ac6 own r
 | .arr k _ _::r=>bif own then ac6 own r else k::ac6 own r
 | .agg T h::r=>bif own then ac6 own r else as8 h++ac6 own r
 | _::r=>ac6 own r
def aqu (st:List BX):List SV->List Nat
 | []=>[]
 | .acc k g _ _::r=>bif anh st k g then k::aqu st r else aqu st r
 | _::r=>aqu st r
def af3 (own:Bool) (st:List BX) (np:Nat) (h:List SV):List Nat:=reach st 4 (afy (List.range np) (aga false st h++(bif own then aqu st h else [])))
def arc (P:Program) (own:Bool) (e:Env) (st:List BX) (np:Nat) (H:List TypeId) (rs:List ResultVar):Option (List SV×List BX):=
 match aus P e st rs with
 | none=>none
 | some h=>
  match ajq P own st H h with
  | none=>none
  | some o=>
   bif (ac6 own h).all (λk=>!((af3 own st np o).any (Nat.beq k))) then
    match renL st (acd (af3 own st np o)) (aji st) o,ahh st (acd (af3 own st np o)) (aji st) (af3 own st np o) with
    | some z,some sub=>some (z,sub)
    | _,_=>none
   else none
def a2t (P:Program) (st:List BX) (np:Nat) (s:SV):Option (List SV×List BX):=
 match s with
 | .ifc T x=>
  match aj2 P (some T) x,ahh st (acd (af3 false st np [])) (aji st) (af3 false st np []) with
  | some h,some sub=>some ([.pan (.ifc T h)],sub)
  | _,_=>none
 | _=>none
def ap4 (args:List SV):Env:=λt=>args.getD t .undef
def awd {R:Type} (C:Cfg) (fn:Func) (args:List SV) (st:List BX) (K:List SV->List BX->Option R):Option R:=
 match fn.body with
 | some c=>
  let fin:Env->List BX->Option R:=λe s=>match arc C.P C.own e s st.length fn.resultTypes.toList fn.results.toList with | some (rs,s')=>K rs s' | none=>none
  exec C c { norm:=fin,exit:=λ_ _ _=>none,ret:=fin,pan:=λs st'=>match a2t C.P st' st.length s with | some (rs,s')=>K rs s' | none=>none } (ap4 args) st
 | none=>none
end Go.Ab
