/- Go's library: contracts of the functions that are not printed. -/
import Derived.Test.YtofplaamkkpciaaGreatDoorAbBldR
import Derived.Lib.ItoaNum
import Derived.Lib.Join
import Derived.Lib.Repeat
import Derived.Sort.Grow
import Derived.Lib.LaidTab
set_option linter.unusedVariables false
set_option linter.unusedSimpArgs false
set_option linter.unnecessarySimpa false
namespace Go.Ab
open Go Go.Proofs Go.RowKit
theorem ae6{P:Program}{f:FuncId}{args J:List SV}(O:ak3 P f)(h:∀(D:Dom)(ow:Own)(μ:Nat->Nat)(w:World)(m:Array Value),Pre P D ow μ [] w args m->Calls P f m w λe w'=>∃v,e=.returned v/\a2b P D w' (adk J) v/\Below w.heap.size w w'):Meets P f args [] J []:=by refine⟨O,λD ow μ w m z=>(h D ow μ w m z).mono ?_⟩;rintro e w' ⟨v,rfl,M,t⟩;obtain⟨H,I⟩:=aiz (M (λ_=>none) μ []);refine⟨v,D,I.symm,λ_ _ d=>d,λ_ _ d=>Or.inl d,⟨λ_=>none,μ,⟨λk b h=>(by simp at h),λb k h=>(by cases h),λb o d=>A0 (z.dlt b o d) t.size,λb k x h=>(by cases h)⟩,H,λb k h=>(by cases h),λk b h=>(by simp at h),λk E g xs ys h=>(by simp at h)⟩,t.os,t.tape,t.output,t.size,λb G _=>t.block b G,Keeps.of_heap λb o d=>t.block b (z.dlt b o d)⟩
theorem as9(w:World)(k:Nat)(m:Array Obj):Below w.heap.size w (Sort.grow (w.drewN k) m):=by refine⟨rfl,rfl,rfl,by simp[Sort.grow,World.drewN],λb o=>?_⟩;show((w.drewN k).heap++m)[b]?=_;rw[Array.getElem?_append_left (by exact o)];rfl
def decF:Nat->Nat->Bn
 |0,_=>[]
 |f+1,u=>bif Nat.ble u 9 then[UInt8.ofNat (48+u)]else decF f (u / 10)++[UInt8.ofNat (48+u%10)]
theorem bhh:∀(f u:Nat),u<10^(f+1)->decF (f+1) u=Lib.decDigits u:=by
 intro f;induction f with
 |zero=>
  intro u o;have m:Nat.ble u 9=true:=by rw[Nat.ble_eq];omega
  rw[Lib.decDigits,dif_pos (by omega)];simp only[decF,m,Ad]
 |succ f t=>
  intro u o;rw[Lib.decDigits];by_cases h:u<10
  ·have m:Nat.ble u 9=true:=by rw[Nat.ble_eq];omega
   rw[dif_pos h,decF,m];rfl
  ·have m:Nat.ble u 9=false:=by rw[<-Bool.not_eq_true,Nat.ble_eq];omega
   rw[dif_neg h,decF,m];show decF (f+1) (u / 10)++_=_;rw[t (u / 10) (by rw[Nat.pow_succ]at o;omega)]
def decB(u:Nat):Bn:=decF 20 u
theorem aul{u:Nat}(h:u<100000000000000000000):decB u=Lib.decDigits u:=bhh 19 u (by simpa using h)
def aol(n:Int):Bn:=bif decide (n<0)then 45::decB n.natAbs else decB n.toNat
theorem ben{n:Int}(m:-9223372036854775808<=n)(o:n<=9223372036854775807):aol n=Lib.itoa n:=by
 unfold aol Lib.itoa;by_cases h:n<0
 ·simp only[h,decide_true,Ad,A8];rw[aul (by omega)]
 ·simp only[h,decide_false,Af,A9];rw[aul (by omega)]
theorem blr {ow:Own}{w:World} (h:Tabs Tryz.prog ow w):Lib.TabIs Tryz.prog w "internal/strconv.uint64pow10" .u64 Lib.pow10Tab:=by
 have o:Tryz.prog.globalNamed "internal/strconv.uint64pow10"=some 4:=by kernel_rfl
 obtain⟨_,cs,T,z,t,m⟩:=h _ (List.mem_cons_self ..) _ o;have m:cs=((List.range 20).map λi=>Value.int .u64 ((10^i:Nat):Int)).toArray:=m;subst m;simp[Lib.TabIs,World.var?,o,t,Lib.pow10Tab]
theorem blz{P:Program}{D:Dom}{ow:Own}{μ:Nat->Nat}{st:List BX}{w:World}{s:SV}{m:Array Value}(o:Pre P D ow μ st w [s] m):∃v,m=#[v]/\SRep P D w ow μ st s v:=by
 have:=o.size;match m,this,o with
 |⟨[a]⟩,_,o=>exact⟨a,rfl,o.arg 0 _ a rfl rfl⟩
theorem bge{P:Program}{D:Dom}{ow:Own}{μ:Nat->Nat}{st:List BX}{w:World}{s t:SV}{o:Array Value}(m:Pre P D ow μ st w [s,t] o):∃u v,o=#[u,v]/\SRep P D w ow μ st s u/\SRep P D w ow μ st t v:=by
 have:=m.size;match o,this,m with
 |⟨[a,b]⟩,_,m=>exact⟨a,b,rfl,m.arg 0 _ a rfl rfl,m.arg 1 _ b rfl rfl⟩
def ak4(m:Nat)(n:Int):Option Bn:=bif decide (-9223372036854775808<=n)&&decide (n<=9223372036854775807)then some (aol n)else none
def as0(m:Nat):CallE:={ f:=322,A:=⟨1,[],[.int .i64]⟩,R:=⟨1,[],[.str]⟩,F:=λx=>ak4 m x,dflt:=[] }
theorem ao5(m:Nat):(as0 m).Ok Tryz.prog:=by intro n y h;have h:ak4 m n=some y:=h;unfold ak4 at h;obtain⟨o,rfl⟩:=aaz h;simp only[Ai,Ax]at o;refine ae6 (aa1 Tryz.func322 (by kernel_rfl) (by kernel_rfl)) (λD ow μ w z t=>?_);obtain⟨v,rfl,G⟩:=blz t;cases G;refine(Tryz.strconv_Itoa n o.1 o.2 w (blr t.tabs)).mono ?_;rintro e w' ⟨rfl,k,H,rfl⟩;refine⟨_,rfl,λI J st'=>?_,as9 w k H⟩;rw[<-ben o.1 o.2];exact .str
theorem bby{P:Program}{D:Dom}{w:World}{T:TypeId}{p:PV}{cs:List Value}(h:Rep P D w T p cs)(m:P.underlying T=some .string):cs=[.string ⟨p.asStr.toArray⟩]:=by
 cases h with
 |str _=>rfl
 |raw h=>simp[rawT,m]at h
 |bool h=>rw[m]at h;cases h
 |int h=>rw[m]at h;cases h
 |nil h=>rw[m]at h;cases h
 |slice h=>rw[m]at h;cases h
 |agg h=>rw[m]at h;cases h
 |arr h=>rw[m]at h;cases h
 |mapnil h=>rw[m]at h;cases h
 |map _ _ h=>rw[m]at h;cases h
theorem bls{L:List Value}{j:Nat}{v:Value}(h:(L.drop (j*1)).take 1=[v]):L[j]?=some v:=by
 have m:((L.drop (j*1)).take 1)[0]?=some v:=by rw[h];rfl
 rw[List.getElem?_take_of_lt (by omega),List.getElem?_drop,Nat.mul_one]at m;simpa using m
def amr(o:Nat)(xs:List PV)(m:Bn):Option Bn:=
 bif Nat.ble xs.length 140737488355328&&Nat.ble (m.intercalate (xs.map PV.asStr)).length 140737488355328 then some (m.intercalate (xs.map PV.asStr))else none
def as2(m:Nat):CallE:={ f:=321,A:=⟨2,[],[.slice 9,.str]⟩,R:=⟨1,[],[.str]⟩,F:=λx=>amr m x.1 x.2,dflt:=[] }
theorem ao6(z:Nat):(as2 z).Ok Tryz.prog:=by
 intro x y h;obtain⟨xs,m⟩:=x;have h:amr z xs m=some y:=h;unfold amr at h;obtain⟨I,rfl⟩:=aaz h;simp only[Ai,Nat.ble_eq]at I;refine ae6 (aa1 Tryz.func321 (by kernel_rfl) (by kernel_rfl)) (λD ow μ w aa V=>?_);obtain⟨v,u,rfl,H,h2⟩:=bge V;cases h2;cases H with
 |slice H=>
  cases H with
  |@nil a c _=>refine(Tryz.strings_Join_none a c ⟨m.toArray⟩ w).mono ?_;rintro e w' ⟨rfl,rfl⟩;exact⟨_,rfl,λU W st'=>.str,Below.refl _ _⟩
  |@mk b off cap _ L M hL hr Z=>
   have J:Tryz.prog.cellsOf 9=1:=by kernel_rfl
   by_cases h0:xs.length=0
   ·have:xs=[]:=List.length_eq_zero_iff.1 h0;subst this;refine(Tryz.strings_Join_none (some ⟨b,off,none⟩) cap ⟨m.toArray⟩ w).mono ?_;rintro e w' ⟨rfl,rfl⟩;exact⟨_,rfl,λU W st'=>.str,Below.refl _ _⟩
   ·have G:(xs.map λx=>(⟨x.asStr.toArray⟩:ByteArray)).map (λb=>b.data.toList)=xs.map PV.asStr:=by simp
    have t:∀(j:Nat)x,(xs.map λx=>(⟨x.asStr.toArray⟩:ByteArray))[j]?=some x->w.cell? ⟨b,off+j,none⟩=some (.string x):=by intro j x hx;simp only[Bf,Option.map_eq_some_iff]at hx;obtain⟨p,Y,rfl⟩:=hx;have o:=hr j p Y;rw[J]at o;have H:=bls (bby o Tryz.underlying9);exact(Z j _ H).2
    have X:b<w.heap.size:=by have Y:xs[0]?=some xs[0]:=Ap (by omega);have o:=hr 0 _ Y;rw[J]at o;exact V.dlt b _ (Z 0 _ (bls (bby o Tryz.underlying9))).1
    have O:(Lib.join ((xs.map λx=>(⟨x.asStr.toArray⟩:ByteArray)).map (·.data.toList)) (⟨m.toArray⟩:ByteArray).data.toList)=m.intercalate (xs.map PV.asStr):=by rw[G];rfl
    have:=Tryz.strings_Join b off cap (xs.map λx=>(⟨x.asStr.toArray⟩:ByteArray)) ⟨m.toArray⟩ w t X (by simpa using I.1) (by simpa using M) (by rw[O];exact I.2);rw[O,List.length_map]at this;refine this.mono ?_;rintro e w' ⟨rfl,I⟩;exact⟨_,rfl,λU W st'=>.str,I⟩
def ah6(m:Nat)(s:Bn)(c:Int):Option Bn:=
 bif decide (0<=c)&&decide (c<=9223372036854775807)&&Nat.ble (s.length*c.toNat) 140737488355328 then some (Lib.repeatL s c.toNat)else none
def aop(m:Nat):CallE:={ f:=315,A:=⟨2,[],[.str,.int .i64]⟩,R:=⟨1,[],[.str]⟩,F:=λx=>ah6 m x.1 x.2,dflt:=[] }
theorem ao7(m:Nat):(aop m).Ok Tryz.prog:=by intro x y h;obtain⟨s,c⟩:=x;have h:ah6 m s c=some y:=h;unfold ah6 at h;obtain⟨o,rfl⟩:=aaz h;simp only[Ai,Nat.ble_eq,Ax]at o;obtain⟨⟨I,U⟩,J⟩:=o;obtain⟨n,rfl⟩:∃n:Nat,c=(n:Int):=⟨c.toNat,(Int.toNat_of_nonneg I).symm⟩;refine ae6 (aa1 Tryz.func315 (by kernel_rfl) (by kernel_rfl)) (λD ow μ w z t=>?_);obtain⟨v,u,rfl,G,H⟩:=bge t;cases G;cases H;refine(Tryz.strings_Repeat ⟨s.toArray⟩ n w (by omega) (by simpa[ByteArray.size]using J)).mono ?_;rintro e w' ⟨rfl,o⟩;exact⟨_,rfl,λM O st'=>.str,o⟩
def aa3(m:Nat)(s bs:Bn):Option (Int×Value×Bn):=bif Nat.ble (bs.length+s.length) 140737488355328 then some ((s.length:Int),.nilIface,bs++s)else none
def ah7(m:Nat)(bs:Bn):Option (Bn×Bn):=some (bs,bs)
def awq(m:Nat)(bs:Bn):Option (Int×Bn):=some ((bs.length:Int),bs)
def ad9(m:Nat):CallE:={ f:=314,A:=⟨2,[.bld 258],[.con (.bref 0 258),.str,.str]⟩,R:=⟨2,[.bld 258],[.int .i64,.raw,.str]⟩,F:=λx=>aa3 m x.2.1 x.2.2,dflt:=(0,undef,[]) }
theorem aph:a7l 258:=⟨by kernel_rfl,by decide,by kernel_rfl⟩
theorem afm(m:Nat):(ad9 m).Ok Tryz.prog:=by intro x y h;obtain⟨_,s,bs⟩:=x;have h:aa3 m s bs=some y:=h;unfold aa3 at h;obtain⟨o,rfl⟩:=aaz h;exact ag2 aph bs s (by simpa using o)
def ah8(m:Nat):CallE:={ f:=214,A:=⟨1,[.bld 258],[.con (.bref 0 258),.str]⟩,R:=⟨1,[.bld 258],[.str,.str]⟩,F:=λx=>ah7 m x.2,dflt:=([],[]) }
theorem ak5(m:Nat):(ah8 m).Ok Tryz.prog:=by intro x y h;obtain⟨_,bs⟩:=x;have h:some (bs,bs)=some y:=h;cases h;exact aoe aph bs
def as3(m:Nat):CallE:={ f:=317,A:=⟨1,[.bld 258],[.con (.bref 0 258),.str]⟩,R:=⟨1,[.bld 258],[.int .i64,.str]⟩,F:=λx=>awq m x.2,dflt:=(0,[]) }
theorem ay9(m:Nat):(as3 m).Ok Tryz.prog:=by intro x y h;obtain⟨_,bs⟩:=x;have h:some ((bs.length:Int),bs)=some y:=h;cases h;exact axs aph bs
end Go.Ab
