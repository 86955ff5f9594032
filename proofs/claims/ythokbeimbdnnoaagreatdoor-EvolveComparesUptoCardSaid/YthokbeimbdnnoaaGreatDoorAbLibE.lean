/- Go's library: contracts of the functions that are not printed. -/
import Derived.Test.YthokbeimbdnnoaaGreatDoorAbBldE
import Derived.Lib.ItoaNum
import Derived.Lib.Join
import Derived.Lib.Repeat
import Derived.Sort.Grow
import Derived.Lib.LaidTab
set_option linter.unusedVariables false
set_option linter.unusedSimpArgs false
set_option linter.unnecessarySimpa false
namespace Go.Ab
open Go Go.Proofs Go.RowKit
theorem aea {P:Program}{f:FuncId}{args Z:List SV} (he:aks P f) (h:∀ (D:Dom) (ow:Own) (μ:Nat->Nat) (w:World) (z:Array Value),Pre P D ow μ [] w args z->Calls P f z w λe w'=>∃ v,e=.returned v/\aw2 P D w' (ac9 Z) v/\Below w.heap.size w w'):Meets P f args [] Z []:=by refine ⟨he,λD ow μ w z I=>(h D ow μ w z I).mono ?_⟩;rintro e w' ⟨v,rfl,hc,H⟩;obtain ⟨M,O⟩:=ag7 (hc (λ_=>none) μ []);refine ⟨v,D,O.symm,λ_ _ d=>d,λ_ _ d=>Or.inl d,⟨λ_=>none,μ,⟨λk b h=>(by simp at h),λb k h=>(by cases h),λb o d=>A5 (I.dlt b o d) H.size,λb k x h=>(by cases h)⟩,M,λb k h=>(by cases h),λk b h=>(by simp at h),λk E g xs ys h=>(by simp at h)⟩,H.os,H.tape,H.output,H.size,λb J _=>H.block b J,Keeps.of_heap λb o d=>H.block b (I.dlt b o d)⟩
theorem ani (w:World) (k:Nat) (h:Array Obj):Below w.heap.size w (Sort.grow (w.drewN k) h):=by refine ⟨rfl,rfl,rfl,by simp [Sort.grow,World.drewN],λb o=>?_⟩;show ((w.drewN k).heap++h)[b]?=_;rw [Array.getElem?_append_left (by exact o)];rfl
def decF:Nat->Nat->Bq
 | 0,_=>[]
 | f+1,u=>bif Nat.ble u 9 then [UInt8.ofNat (48+u)] else decF f (u / 10)++[UInt8.ofNat (48+u%10)]
theorem a5f:∀ (f u:Nat),u<10^(f+1)->decF (f+1) u=Lib.decDigits u:=by
 intro f;induction f with
 | zero=>
  intro u z;have o:Nat.ble u 9=true:=by rw [Nat.ble_eq];omega
  rw [Lib.decDigits,dif_pos (by omega)];simp only [decF,o,Af]
 | succ f H=>
  intro u z;rw [Lib.decDigits];by_cases h:u<10
  ·have o:Nat.ble u 9=true:=by rw [Nat.ble_eq];omega
   rw [dif_pos h,decF,o];rfl
  ·have o:Nat.ble u 9=false:=by rw [<-Bool.not_eq_true,Nat.ble_eq];omega
   rw [dif_neg h,decF,o];show decF (f+1) (u / 10)++_=_;rw [H (u / 10) (by rw [Nat.pow_succ] at z;omega)]
def decB (u:Nat):Bq:=decF 20 u
theorem aok {u:Nat} (h:u<100000000000000000000):decB u=Lib.decDigits u:=a5f 19 u (by simpa using h)
def akq (n:Int):Bq:=bif decide (n<0) then 45::decB n.natAbs else decB n.toNat
theorem a1v {n:Int} (o:-9223372036854775808<=n) (z:n<=9223372036854775807):akq n=Lib.itoa n:=by
 unfold akq Lib.itoa;by_cases h:n<0
 ·simp only [h,decide_true,Af,Ba];rw [aok (by omega)]
 ·simp only [h,decide_false,Ah,A8];rw [aok (by omega)]
theorem a8h {ow:Own}{w:World} (h:Tabs Tryz.prog ow w):Lib.TabIs Tryz.prog w "internal/strconv.uint64pow10" .u64 Lib.pow10Tab:=by
 have z:Tryz.prog.globalNamed "internal/strconv.uint64pow10"=some 1:=by kernel_rfl
 obtain ⟨_,cs,T,I,H,o⟩:=h _ (List.mem_cons_self ..) _ z;have o:cs=((List.range 20).map λi=>Value.int .u64 ((10^i:Nat):Int)).toArray:=o;subst o;simp [Lib.TabIs,World.var?,z,H,Lib.pow10Tab]
theorem a8k {P:Program}{D:Dom}{ow:Own}{μ:Nat->Nat}{st:List BX}{w:World}{s:SV}{h:Array Value} (o:Pre P D ow μ st w [s] h):∃ v,h=#[v]/\SRep P D w ow μ st s v:=by
 have:=o.size;match h,this,o with
 | ⟨[a]⟩,_,o=>exact ⟨a,rfl,o.arg 0 _ a rfl rfl⟩
theorem a3p {P:Program}{D:Dom}{ow:Own}{μ:Nat->Nat}{st:List BX}{w:World}{s t:SV}{o:Array Value} (h:Pre P D ow μ st w [s,t] o):∃ u v,o=#[u,v]/\SRep P D w ow μ st s u/\SRep P D w ow μ st t v:=by
 have:=h.size;match o,this,h with
 | ⟨[a,b]⟩,_,h=>exact ⟨a,b,rfl,h.arg 0 _ a rfl rfl,h.arg 1 _ b rfl rfl⟩
def apy (h:Nat) (n:Int):Option Bq:=bif decide (-9223372036854775808<=n)&&decide (n<=9223372036854775807) then some (akq n) else none
def aw4 (h:Nat):CallE:={ f:=52,A:=⟨1,[],[.int .i64]⟩,R:=⟨1,[],[.str]⟩,F:=λx=>apy h x,dflt:=[] }
theorem aw5 (o:Nat):(aw4 o).Ok Tryz.prog:=by intro n y h;have h:apy o n=some y:=h;unfold apy at h;obtain ⟨z,rfl⟩:=aa0 h;simp only [Ai,A6] at z;refine aea (aa7 Tryz.func52 (by kernel_rfl) (by kernel_rfl)) (λD ow μ w I H=>?_);obtain ⟨v,rfl,J⟩:=a8k H;cases J;refine (Tryz.strconv_Itoa n z.1 z.2 w (a8h H.tabs)).mono ?_;rintro e w' ⟨rfl,k,M,rfl⟩;refine ⟨_,rfl,λO Z st'=>?_,ani w k M⟩;rw [<-a1v z.1 z.2];exact .str
theorem azp {P:Program}{D:Dom}{w:World}{T:TypeId}{p:PV}{cs:List Value} (h:Rep P D w T p cs) (o:P.underlying T=some .string):cs=[.string ⟨p.asStr.toArray⟩]:=by
 cases h with
 | str _=>rfl
 | raw h=>simp [rawT,o] at h
 | bool h=>rw [o] at h;cases h
 | int h=>rw [o] at h;cases h
 | nil h=>rw [o] at h;cases h
 | slice h=>rw [o] at h;cases h
 | agg h=>rw [o] at h;cases h
 | arr h=>rw [o] at h;cases h
 | mapnil h=>rw [o] at h;cases h
 | map _ _ h=>rw [o] at h;cases h
theorem a8i {L:List Value}{j:Nat}{v:Value} (h:(L.drop (j*1)).take 1=[v]):L[j]?=some v:=by
 have o:((L.drop (j*1)).take 1)[0]?=some v:=by rw [h];rfl
 rw [List.getElem?_take_of_lt (by omega),List.getElem?_drop,Nat.mul_one] at o;simpa using o
def a0m (o:Nat) (xs:List PV) (h:Bq):Option Bq:=
 bif Nat.ble xs.length 140737488355328&&Nat.ble (h.intercalate (xs.map PV.asStr)).length 140737488355328 then some (h.intercalate (xs.map PV.asStr)) else none
def a3s (h:Nat):CallE:={ f:=50,A:=⟨2,[],[.slice 9,.str]⟩,R:=⟨1,[],[.str]⟩,F:=λx=>a0m h x.1 x.2,dflt:=[] }
theorem a4q (I:Nat):(a3s I).Ok Tryz.prog:=by
 intro x y h;obtain ⟨xs,o⟩:=x;have h:a0m I xs o=some y:=h;unfold a0m at h;obtain ⟨O,rfl⟩:=aa0 h;simp only [Ai,Nat.ble_eq] at O;refine aea (aa7 Tryz.func50 (by kernel_rfl) (by kernel_rfl)) (λD ow μ w ah ae=>?_);obtain ⟨v,u,rfl,M,h2⟩:=a3p ae;cases h2;cases M with
 | slice M=>
  cases M with
  | @nil a c _=>refine (Tryz.strings_Join_none a c ⟨o.toArray⟩ w).mono ?_;rintro e w' ⟨rfl,rfl⟩;exact ⟨_,rfl,λad af st'=>.str,Below.refl _ _⟩
  | @mk b off cap _ L aa hL hr hh=>
   have Z:Tryz.prog.cellsOf 9=1:=by kernel_rfl
   by_cases h0:xs.length=0
   ·have:xs=[]:=List.length_eq_zero_iff.1 h0;subst this;refine (Tryz.strings_Join_none (some ⟨b,off,none⟩) cap ⟨o.toArray⟩ w).mono ?_;rintro e w' ⟨rfl,rfl⟩;exact ⟨_,rfl,λad af st'=>.str,Below.refl _ _⟩
   ·have J:(xs.map λx=>(⟨x.asStr.toArray⟩:ByteArray)).map (λb=>b.data.toList)=xs.map PV.asStr:=by simp
    have H:∀ (j:Nat) x,(xs.map λx=>(⟨x.asStr.toArray⟩:ByteArray))[j]?=some x->w.cell? ⟨b,off+j,none⟩=some (.string x):=by intro j x hx;simp only [Bf,Option.map_eq_some_iff] at hx;obtain ⟨p,hp,rfl⟩:=hx;have z:=hr j p hp;rw [Z] at z;have M:=a8i (azp z Tryz.underlying9);exact (hh j _ M).2
    have ag:b<w.heap.size:=by have hp:xs[0]?=some xs[0]:=Aq (by omega);have z:=hr 0 _ hp;rw [Z] at z;exact ae.dlt b _ (hh 0 _ (a8i (azp z Tryz.underlying9))).1
    have ab:(Lib.join ((xs.map λx=>(⟨x.asStr.toArray⟩:ByteArray)).map (·.data.toList)) (⟨o.toArray⟩:ByteArray).data.toList)=o.intercalate (xs.map PV.asStr):=by rw [J];rfl
    have:=Tryz.strings_Join b off cap (xs.map λx=>(⟨x.asStr.toArray⟩:ByteArray)) ⟨o.toArray⟩ w H ag (by simpa using O.1) (by simpa using aa) (by rw [ab];exact O.2);rw [ab,List.length_map] at this;refine this.mono ?_;rintro e w' ⟨rfl,O⟩;exact ⟨_,rfl,λad af st'=>.str,O⟩
def ajh (h:Nat) (s:Bq) (c:Int):Option Bq:=
 bif decide (0<=c)&&decide (c<=9223372036854775807)&&Nat.ble (s.length*c.toNat) 140737488355328 then some (Lib.repeatL s c.toNat) else none
def at1 (h:Nat):CallE:={ f:=321,A:=⟨2,[],[.str,.int .i64]⟩,R:=⟨1,[],[.str]⟩,F:=λx=>ajh h x.1 x.2,dflt:=[] }
theorem aw6 (o:Nat):(at1 o).Ok Tryz.prog:=by intro x y h;obtain ⟨s,c⟩:=x;have h:ajh o s c=some y:=h;unfold ajh at h;obtain ⟨z,rfl⟩:=aa0 h;simp only [Ai,Nat.ble_eq,A6] at z;obtain ⟨⟨O,h1⟩,Z⟩:=z;obtain ⟨n,rfl⟩:∃ n:Nat,c=(n:Int):=⟨c.toNat,(Int.toNat_of_nonneg O).symm⟩;refine aea (aa7 Tryz.func321 (by kernel_rfl) (by kernel_rfl)) (λD ow μ w I H=>?_);obtain ⟨v,u,rfl,J,M⟩:=a3p H;cases J;cases M;refine (Tryz.strings_Repeat ⟨s.toArray⟩ n w (by omega) (by simpa [ByteArray.size] using Z)).mono ?_;rintro e w' ⟨rfl,z⟩;exact ⟨_,rfl,λaa ab st'=>.str,z⟩
def abo (h:Nat) (s bs:Bq):Option (Int×Value×Bq):=bif Nat.ble (bs.length+s.length) 140737488355328 then some ((s.length:Int),.nilIface,bs++s) else none
def aoa (h:Nat) (bs:Bq):Option (Bq×Bq):=some (bs,bs)
def ado (h:Nat):CallE:={ f:=49,A:=⟨2,[.bld 89],[.con (.bref 0 89),.str,.str]⟩,R:=⟨2,[.bld 89],[.int .i64,.raw,.str]⟩,F:=λx=>abo h x.2.1 x.2.2,dflt:=(0,undef,[]) }
theorem at5:a4o 89:=⟨by kernel_rfl,by decide,by kernel_rfl⟩
theorem ae1 (o:Nat):(ado o).Ok Tryz.prog:=by intro x y h;obtain ⟨_,s,bs⟩:=x;have h:abo o s bs=some y:=h;unfold abo at h;obtain ⟨z,rfl⟩:=aa0 h;exact akb at5 bs s (by simpa using z)
def ah5 (h:Nat):CallE:={ f:=54,A:=⟨1,[.bld 89],[.con (.bref 0 89),.str]⟩,R:=⟨1,[.bld 89],[.str,.str]⟩,F:=λx=>aoa h x.2,dflt:=([],[]) }
theorem akc (o:Nat):(ah5 o).Ok Tryz.prog:=by intro x y h;obtain ⟨_,bs⟩:=x;have h:some (bs,bs)=some y:=h;cases h;exact arn at5 bs
end Go.Ab
