/- Go's library: contracts of the functions that are not printed. -/
import Derived.Test.YticdffgjgfmicaaGreatDoorAbBldK
import Derived.Lib.ItoaNum
import Derived.Lib.Join
import Derived.Lib.Repeat
import Derived.Sort.Grow
import Derived.Lib.LaidTab
set_option linter.unusedVariables false
set_option linter.unusedSimpArgs false
set_option linter.unnecessarySimpa false
namespace Go.Ab
open Go Go.Proofs Go.RowKit
theorem agr{P:Program}{f:FuncId}{args rs:List SV}(M:aoa P f)(h:∀(D:Dom)(ow:Own)(μ:Nat->Nat)(w:World)(m:Array Value),Pre P D ow μ [] w args m->Calls P f m w λe w'=>∃v,e=.returned v/\a6f P D w' (adp rs) v/\Below w.heap.size w w'):Meets P f args [] rs []:=by refine⟨M,λD ow μ w m z=>(h D ow μ w m z).mono ?_⟩;rintro e w' ⟨v,rfl,J,t⟩;obtain⟨H,I⟩:=agw (J (λ_=>none) μ []);refine⟨v,D,I.symm,λ_ _ d=>d,λ_ _ d=>Or.inl d,⟨λ_=>none,μ,⟨λk b h=>(by simp at h),λb k h=>(by cases h),λb o d=>A2 (z.dlt b o d) t.size,λb k x h=>(by cases h)⟩,H,λb k h=>(by cases h),λk b h=>(by simp at h),λk E g xs ys h=>(by simp at h)⟩,t.os,t.tape,t.output,t.size,λb G _=>t.block b G,Keeps.of_heap λb o d=>t.block b (z.dlt b o d)⟩
theorem asg(w:World)(k:Nat)(m:Array Obj):Below w.heap.size w (Sort.grow (w.drewN k) m):=by refine⟨rfl,rfl,rfl,by simp_all,λb o=>?_⟩;show((w.drewN k).heap++m)[b]?=_;rw[Array.getElem?_append_left (by exact o)];rfl
def decF:Nat->Nat->Bn
 |0,_=>[]
 |f+1,u=>bif Nat.ble u 9 then[UInt8.ofNat (48+u)]else decF f (u / 10)++[UInt8.ofNat (48+u%10)]
theorem bgo:∀(f u:Nat),u<10^(f+1)->decF (f+1) u=Lib.decDigits u:=by
 intro f;induction f with
 |zero=>
  intro u o;have m:Nat.ble u 9=true:=by rw[Nat.ble_eq];omega
  rw[Lib.decDigits,dif_pos (by omega)];simp only[decF,m,Ad]
 |succ f t=>
  intro u o;rw[Lib.decDigits];by_cases h:u<10
  ·have m:Nat.ble u 9=true:=by rw[Nat.ble_eq];omega
   rw[dif_pos h,decF,m];rfl
  ·have m:Nat.ble u 9=false:=by rw[<-Bool.not_eq_true,Nat.ble_eq];omega
   rw[dif_neg h,decF,m];grind
def decB(u:Nat):Bn:=decF 20 u
theorem atx{u:Nat}(h:u<100000000000000000000):decB u=Lib.decDigits u:=bgo 19 u (by simpa using h)
def an6(n:Int):Bn:=bif decide (n<0)then 45::decB n.natAbs else decB n.toNat
theorem bdq{n:Int}(m:-9223372036854775808<=n)(o:n<=9223372036854775807):an6 n=Lib.itoa n:=by
 unfold an6 Lib.itoa;by_cases h:n<0
 ·simp only[h,decide_true,Ad,A8];grind[atx]
 ·simp only[h,decide_false,Af,A9];grind[atx]
theorem bkd {ow:Own}{w:World} (h:Tabs Tryz.prog ow w):Lib.TabIs Tryz.prog w "internal/strconv.uint64pow10" .u64 Lib.pow10Tab:=by
 have o:Tryz.prog.globalNamed "internal/strconv.uint64pow10"=some 3:=by kernel_rfl
 obtain⟨_,cs,T,z,t,m⟩:=h _ (List.mem_cons_self ..) _ o;have m:cs=((List.range 20).map λi=>Value.int .u64 ((10^i:Nat):Int)).toArray:=m;subst m;simp[Lib.TabIs,World.var?,o,t,Lib.pow10Tab]
theorem bkj{P:Program}{D:Dom}{ow:Own}{μ:Nat->Nat}{st:List BX}{w:World}{s:SV}{m:Array Value}(o:Pre P D ow μ st w [s] m):∃v,m=#[v]/\SRep P D w ow μ st s v:=by
 have:=o.size;match m,this,o with
 |⟨[a]⟩,_,o=>exact⟨a,rfl,o.arg 0 _ a rfl rfl⟩
theorem bfk{P:Program}{D:Dom}{ow:Own}{μ:Nat->Nat}{st:List BX}{w:World}{s t:SV}{o:Array Value}(m:Pre P D ow μ st w [s,t] o):∃u v,o=#[u,v]/\SRep P D w ow μ st s u/\SRep P D w ow μ st t v:=by
 have:=m.size;match o,this,m with
 |⟨[a,b]⟩,_,m=>exact⟨a,b,rfl,m.arg 0 _ a rfl rfl,m.arg 1 _ b rfl rfl⟩
def akw(m:Nat)(n:Int):Option Bn:=bif decide (-9223372036854775808<=n)&&decide (n<=9223372036854775807)then some (an6 n)else none
def avv(m:Nat):CallE:={ f:=295,A:=⟨1,[],[.int .i64]⟩,R:=⟨1,[],[.str]⟩,F:=λx=>akw m x,dflt:=[] }
theorem atd(m:Nat):(avv m).Ok Tryz.prog:=by intro n y h;have h:akw m n=some y:=h;unfold akw at h;obtain⟨o,rfl⟩:=aaz h;simp only[Ai,Ax]at o;refine agr (abc Tryz.func295 (by kernel_rfl) (by kernel_rfl)) (λD ow μ w z t=>?_);obtain⟨v,rfl,G⟩:=bkj t;cases G;refine(Tryz.strconv_Itoa n o.1 o.2 w (bkd t.tabs)).mono ?_;rintro e w' ⟨rfl,k,H,rfl⟩;refine⟨_,rfl,λI J st'=>?_,asg w k H⟩;rw[<-bdq o.1 o.2];exact .str
theorem ba0{P:Program}{D:Dom}{w:World}{T:TypeId}{p:PV}{cs:List Value}(h:Rep P D w T p cs)(m:P.underlying T=some .string):cs=[.string ⟨p.asStr.toArray⟩]:=by
 cases h with
 |str _=>rfl
 |raw h=>simp[rawT,m]at h
 |bool h=>grind
 |int h=>grind
 |nil h=>grind
 |slice h=>grind
 |agg h=>grind
 |arr h=>grind
 |mapnil h=>grind
 |map _ _ h=>grind
theorem bke{L:List Value}{j:Nat}{v:Value}(h:(L.drop (j*1)).take 1=[v]):L[j]?=some v:=by
 have m:((L.drop (j*1)).take 1)[0]?=some v:=by rw[h];rfl
 grind
def amc(o:Nat)(xs:List PV)(m:Bn):Option Bn:=
 bif Nat.ble xs.length 140737488355328&&Nat.ble (m.intercalate (xs.map PV.asStr)).length 140737488355328 then some (m.intercalate (xs.map PV.asStr))else none
def avx(m:Nat):CallE:={ f:=294,A:=⟨2,[],[.slice 9,.str]⟩,R:=⟨1,[],[.str]⟩,F:=λx=>amc m x.1 x.2,dflt:=[] }
theorem ate(z:Nat):(avx z).Ok Tryz.prog:=by
 intro x y h;obtain⟨xs,m⟩:=x;have h:amc z xs m=some y:=h;unfold amc at h;obtain⟨V,rfl⟩:=aaz h;simp only[Ai,Nat.ble_eq]at V;refine agr (abc Tryz.func294 (by kernel_rfl) (by kernel_rfl)) (λD ow μ w aa O=>?_);obtain⟨v,u,rfl,H,h2⟩:=bfk O;cases h2;cases H with
 |slice H=>
  cases H with
  |@nil a c _=>refine(Tryz.strings_Join_none a c ⟨m.toArray⟩ w).mono ?_;rintro e w' ⟨rfl,rfl⟩;exact⟨_,rfl,λM U st'=>.str,Below.refl _ _⟩
  |@mk b off cap _ L J hL hr Z=>
   have I:Tryz.prog.cellsOf 9=1:=by kernel_rfl
   by_cases h0:xs.length=0
   ·have:xs=[]:=List.length_eq_zero_iff.1 h0;subst this;refine(Tryz.strings_Join_none (some ⟨b,off,none⟩) cap ⟨m.toArray⟩ w).mono ?_;rintro e w' ⟨rfl,rfl⟩;exact⟨_,rfl,λM U st'=>.str,Below.refl _ _⟩
   ·have G:(xs.map λx=>(⟨x.asStr.toArray⟩:ByteArray)).map (λb=>b.data.toList)=xs.map PV.asStr:=by simp
    have t:∀(j:Nat)x,(xs.map λx=>(⟨x.asStr.toArray⟩:ByteArray))[j]?=some x->w.cell? ⟨b,off+j,none⟩=some (.string x):=by intro j x hx;simp only[Bh,Option.map_eq_some_iff]at hx;obtain⟨p,Y,rfl⟩:=hx;have o:=hr j p Y;rw[I]at o;have H:=bke (ba0 o Tryz.underlying9);exact(Z j _ H).2
    have W:b<w.heap.size:=by have Y:xs[0]?=some xs[0]:=Ao (by omega);have o:=hr 0 _ Y;rw[I]at o;exact O.dlt b _ (Z 0 _ (bke (ba0 o Tryz.underlying9))).1
    have X:(Lib.join ((xs.map λx=>(⟨x.asStr.toArray⟩:ByteArray)).map (·.data.toList)) (⟨m.toArray⟩:ByteArray).data.toList)=m.intercalate (xs.map PV.asStr):=by rw[G];rfl
    have:=Tryz.strings_Join b off cap (xs.map λx=>(⟨x.asStr.toArray⟩:ByteArray)) ⟨m.toArray⟩ w t W (by simpa using V.1) (by simpa using J) (by grind);rw[X,List.length_map]at this;refine this.mono ?_;rintro e w' ⟨rfl,V⟩;exact⟨_,rfl,λM U st'=>.str,V⟩
def ah1(m:Nat)(s:Bn)(c:Int):Option Bn:=
 bif decide (0<=c)&&decide (c<=9223372036854775807)&&Nat.ble (s.length*c.toNat) 140737488355328 then some (Lib.repeatL s c.toNat)else none
def atf(m:Nat):CallE:={ f:=288,A:=⟨2,[],[.str,.int .i64]⟩,R:=⟨1,[],[.str]⟩,F:=λx=>ah1 m x.1 x.2,dflt:=[] }
theorem avy(m:Nat):(atf m).Ok Tryz.prog:=by intro x y h;obtain⟨s,c⟩:=x;have h:ah1 m s c=some y:=h;unfold ah1 at h;obtain⟨o,rfl⟩:=aaz h;simp only[Ai,Nat.ble_eq,Ax]at o;obtain⟨⟨I,O⟩,U⟩:=o;obtain⟨n,rfl⟩:∃n:Nat,c=(n:Int):=⟨c.toNat,(Int.toNat_of_nonneg I).symm⟩;refine agr (abc Tryz.func288 (by kernel_rfl) (by kernel_rfl)) (λD ow μ w z t=>?_);obtain⟨v,u,rfl,G,H⟩:=bfk t;cases G;cases H;refine(Tryz.strings_Repeat ⟨s.toArray⟩ n w (by omega) (by grind[ByteArray.size])).mono ?_;rintro e w' ⟨rfl,o⟩;exact⟨_,rfl,λJ M st'=>.str,o⟩
def aa2(m:Nat)(s bs:Bn):Option (Int×Value×Bn):=bif Nat.ble (bs.length+s.length) 140737488355328 then some ((s.length:Int),.nilIface,bs++s)else none
def ah2(m:Nat)(bs:Bn):Option (Bn×Bn):=some (bs,bs)
def ayg(m:Nat)(bs:Bn):Option (Int×Bn):=some ((bs.length:Int),bs)
def af0(m:Nat):CallE:={ f:=287,A:=⟨2,[.bld 235],[.con (.bref 0 235),.str,.str]⟩,R:=⟨2,[.bld 235],[.int .i64,.raw,.str]⟩,F:=λx=>aa2 m x.2.1 x.2.2,dflt:=(0,undef,[]) }
theorem av7:a6e 235:=⟨by kernel_rfl,by decide,by kernel_rfl⟩
theorem akx(m:Nat):(af0 m).Ok Tryz.prog:=by intro x y h;obtain⟨_,s,bs⟩:=x;have h:aa2 m s bs=some y:=h;unfold aa2 at h;obtain⟨o,rfl⟩:=aaz h;exact agy av7 bs s (by simpa using o)
def anb(m:Nat):CallE:={ f:=183,A:=⟨1,[.bld 235],[.con (.bref 0 235),.str]⟩,R:=⟨1,[.bld 235],[.str,.str]⟩,F:=λx=>ah2 m x.2,dflt:=([],[]) }
theorem ati(m:Nat):(anb m).Ok Tryz.prog:=by intro x y h;obtain⟨_,bs⟩:=x;have h:some (bs,bs)=some y:=h;cases h;exact anz av7 bs
end Go.Ab
