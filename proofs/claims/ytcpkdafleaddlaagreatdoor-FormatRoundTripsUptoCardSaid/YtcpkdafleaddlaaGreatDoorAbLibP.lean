/- Go's library: contracts of the functions that are not printed. -/
import Derived.Test.YtcpkdafleaddlaaGreatDoorAbBldP
import Derived.Lib.Join
import Derived.Lib.Repeat
import Derived.Sort.Grow
import Derived.Lib.LaidTab
set_option linter.unusedVariables false
set_option linter.unusedSimpArgs false
set_option linter.unnecessarySimpa false
namespace Go.Ab
open Go Go.Proofs Go.RowKit
theorem acu {P:Program}{f:FuncId}{args rs:List SV} (W:ak1 P f) (h:∀ (D:Dom) (ow:Own) (μ:Nat->Nat) (w:World) (m:Array Value),Pre P D ow μ [] w args m->Calls P f m w λe w'=>∃ v,e=.returned v/\av4 P D w' (ael rs) v/\Below w.heap.size w w'):Meets P f args [] rs []:=by refine ⟨W,λD ow μ w m H=>(h D ow μ w m H).mono ?_⟩;rintro e w' ⟨v,rfl,V,z⟩;obtain ⟨O,U⟩:=ai5 (V (λ_=>none) μ []);refine ⟨v,D,U.symm,λ_ _ d=>d,λ_ _ d=>Or.inl d,⟨λ_=>none,μ,⟨λk b h=>(by simp at h),λb k h=>(by cases h),λb o d=>A0 (H.dlt b o d) z.size,λb k x h=>(by cases h)⟩,O,λb k h=>(by cases h),λk b h=>(by simp at h),λk E g xs X h=>(by simp at h)⟩,z.os,z.tape,z.output,z.size,λb M _=>z.block b M,Keeps.of_heap λb o d=>z.block b (H.dlt b o d)⟩
theorem asi (w:World) (k:Nat) (d:Array Obj):Below w.heap.size w (Sort.grow (w.drewN k) d):=by refine ⟨rfl,rfl,rfl,by simp [Sort.grow,World.drewN],λb m=>?_⟩;show ((w.drewN k).heap++d)[b]?=_;rw [Array.getElem?_append_left (by exact m)];rfl
def decF:Nat->Nat->Bo
 | 0,_=>[]
 | f+1,u=>bif Nat.ble u 9 then [UInt8.ofNat (48+u)] else decF f (u / 10)++[UInt8.ofNat (48+u%10)]
theorem bir:∀ (f u:Nat),u<10^(f+1)->decF (f+1) u=Lib.decDigits u:=by
 intro f;induction f with
 | zero=>
  intro u m;have d:Nat.ble u 9=true:=by rw [Nat.ble_eq];omega
  rw [Lib.decDigits,dif_pos (by omega)];simp only [decF,d,Ad]
 | succ f o=>
  intro u m;rw [Lib.decDigits];by_cases h:u<10
  ·have d:Nat.ble u 9=true:=by rw [Nat.ble_eq];omega
   rw [dif_pos h,decF,d];rfl
  ·have d:Nat.ble u 9=false:=by rw [<-Bool.not_eq_true,Nat.ble_eq];omega
   rw [dif_neg h,decF,d];show decF (f+1) (u / 10)++_=_;rw [o (u / 10) (by rw [Nat.pow_succ] at m;omega)]
def decB (u:Nat):Bo:=decF 20 u
theorem agn {u:Nat} (h:u<100000000000000000000):decB u=Lib.decDigits u:=bir 19 u (by simpa using h)
def alp (n:Int):Bo:=bif decide (n<0) then 45::decB n.natAbs else decB n.toNat
theorem bfj {n:Int} (d:-9223372036854775808<=n) (m:n<=9223372036854775807):alp n=Lib.itoa n:=by
 unfold alp Lib.itoa;by_cases h:n<0
 ·simp only [h,decide_true,Ad,A9];rw [agn (by omega)]
 ·simp only [h,decide_false,Ae,Ba];rw [agn (by omega)]
theorem bng {ow:Own}{w:World} (h:Tabs Tryz.prog ow w):Lib.TabIs Tryz.prog w "internal/strconv.uint64pow10" .u64 Lib.pow10Tab:=by
 have m:Tryz.prog.globalNamed "internal/strconv.uint64pow10"=some 1:=by kernel_rfl
 obtain ⟨_,cs,T,z,o,d⟩:=h _ (List.mem_cons_self ..) _ m;have d:cs=((List.range 20).map λi=>Value.int .u64 ((10^i:Nat):Int)).toArray:=d;subst d;simp [Lib.TabIs,World.var?,m,o,Lib.pow10Tab]
theorem bhj {P:Program}{D:Dom}{ow:Own}{μ:Nat->Nat}{st:List BX}{w:World}{s:SV}{d:Array Value} (m:Pre P D ow μ st w [s] d):∃ v,d=#[v]/\SRep P D w ow μ st s v:=by
 have:=m.size;match d,this,m with
 | ⟨[a]⟩,_,m=>exact ⟨a,rfl,m.arg 0 _ a rfl rfl⟩
theorem bhk {P:Program}{D:Dom}{ow:Own}{μ:Nat->Nat}{st:List BX}{w:World}{s t:SV}{m:Array Value} (d:Pre P D ow μ st w [s,t] m):∃ u v,m=#[u,v]/\SRep P D w ow μ st s u/\SRep P D w ow μ st t v:=by
 have:=d.size;match m,this,d with
 | ⟨[a,b]⟩,_,d=>exact ⟨a,b,rfl,d.arg 0 _ a rfl rfl,d.arg 1 _ b rfl rfl⟩
def ak2 (d:Nat) (n:Int):Option Bo:=bif decide (-9223372036854775808<=n)&&decide (n<=9223372036854775807) then some (alp n) else none
def av9 (d:Nat):CallE:={ f:=148,A:=⟨1,[],[.int .i64]⟩,R:=⟨1,[],[.str]⟩,F:=λx=>ak2 d x,dflt:=[] }
theorem atq (d:Nat):(av9 d).Ok Tryz.prog:=by intro n y h;have h:ak2 d n=some y:=h;unfold ak2 at h;obtain ⟨m,rfl⟩:=abg h;simp only [Ag,Av] at m;refine acu (aay Tryz.func148 (by kernel_rfl) (by kernel_rfl)) (λD ow μ w z o=>?_);obtain ⟨v,rfl,H⟩:=bhj o;cases H;refine (Tryz.strconv_Itoa n m.1 m.2 w (bng o.tabs)).mono ?_;rintro e w' ⟨rfl,k,M,rfl⟩;refine ⟨_,rfl,λO U st'=>?_,asi w k M⟩;rw [<-bfj m.1 m.2];exact .str
theorem bck {P:Program}{D:Dom}{w:World}{T:TypeId}{p:PV}{cs:List Value} (h:Rep P D w T p cs) (d:P.underlying T=some .string):cs=[.string ⟨p.asStr.toArray⟩]:=by
 cases h with
 | str _=>rfl
 | raw h=>simp [rawT,d] at h
 | bool h=>rw [d] at h;cases h
 | int h=>rw [d] at h;cases h
 | nil h=>rw [d] at h;cases h
 | slice h=>rw [d] at h;cases h
 | agg h=>rw [d] at h;cases h
 | arr h=>rw [d] at h;cases h
 | mapnil h=>rw [d] at h;cases h
 | map _ _ h=>rw [d] at h;cases h
theorem bnh {L:List Value}{j:Nat}{v:Value} (h:(L.drop (j*1)).take 1=[v]):L[j]?=some v:=by
 have d:((L.drop (j*1)).take 1)[0]?=some v:=by rw [h];rfl
 rw [List.getElem?_take_of_lt (by omega),List.getElem?_drop,Nat.mul_one] at d;simpa using d
def apm (m:Nat) (xs:List PV) (d:Bo):Option Bo:=
 bif Nat.ble xs.length 140737488355328&&Nat.ble (d.intercalate (xs.map PV.asStr)).length 140737488355328 then some (d.intercalate (xs.map PV.asStr)) else none
def a1t (d:Nat):CallE:={ f:=74,A:=⟨2,[],[.slice 9,.str]⟩,R:=⟨1,[],[.str]⟩,F:=λx=>apm d x.1 x.2,dflt:=[] }
theorem ay4 (z:Nat):(a1t z).Ok Tryz.prog:=by
 intro x y h;obtain ⟨xs,d⟩:=x;have h:apm z xs d=some y:=h;unfold apm at h;obtain ⟨O,rfl⟩:=abg h;simp only [Ag,Nat.ble_eq] at O;refine acu (aay Tryz.func74 (by kernel_rfl) (by kernel_rfl)) (λD ow μ w ab Y=>?_);obtain ⟨v,u,rfl,M,h2⟩:=bhk Y;cases h2;cases M with
 | slice M=>
  cases M with
  | @nil a c _=>refine (Tryz.strings_Join_none a c ⟨d.toArray⟩ w).mono ?_;rintro e w' ⟨rfl,rfl⟩;exact ⟨_,rfl,λX Z st'=>.str,Below.refl _ _⟩
  | @mk b off cap _ L V hL hr hh=>
   have U:Tryz.prog.cellsOf 9=1:=by kernel_rfl
   by_cases h0:xs.length=0
   ·have:xs=[]:=List.length_eq_zero_iff.1 h0;subst this;refine (Tryz.strings_Join_none (some ⟨b,off,none⟩) cap ⟨d.toArray⟩ w).mono ?_;rintro e w' ⟨rfl,rfl⟩;exact ⟨_,rfl,λX Z st'=>.str,Below.refl _ _⟩
   ·have H:(xs.map λx=>(⟨x.asStr.toArray⟩:ByteArray)).map (λb=>b.data.toList)=xs.map PV.asStr:=by simp
    have o:∀ (j:Nat) x,(xs.map λx=>(⟨x.asStr.toArray⟩:ByteArray))[j]?=some x->w.cell? ⟨b,off+j,none⟩=some (.string x):=by intro j x hx;simp only [List.getElem?_map,Option.map_eq_some_iff] at hx;obtain ⟨p,hp,rfl⟩:=hx;have m:=hr j p hp;rw [U] at m;have M:=bnh (bck m Tryz.underlying9);exact (hh j _ M).2
    have aa:b<w.heap.size:=by have hp:xs[0]?=some xs[0]:=Ar (by omega);have m:=hr 0 _ hp;rw [U] at m;exact Y.dlt b _ (hh 0 _ (bnh (bck m Tryz.underlying9))).1
    have W:(Lib.join ((xs.map λx=>(⟨x.asStr.toArray⟩:ByteArray)).map (·.data.toList)) (⟨d.toArray⟩:ByteArray).data.toList)=d.intercalate (xs.map PV.asStr):=by rw [H];rfl
    have:=Tryz.strings_Join b off cap (xs.map λx=>(⟨x.asStr.toArray⟩:ByteArray)) ⟨d.toArray⟩ w o aa (by simpa using O.1) (by simpa using V) (by rw [W];exact O.2);rw [W,List.length_map] at this;refine this.mono ?_;rintro e w' ⟨rfl,O⟩;exact ⟨_,rfl,λX Z st'=>.str,O⟩
def ah8 (d:Nat) (s:Bo) (c:Int):Option Bo:=
 bif decide (0<=c)&&decide (c<=9223372036854775807)&&Nat.ble (s.length*c.toNat) 140737488355328 then some (Lib.repeatL s c.toNat) else none
def ats (d:Nat):CallE:={ f:=254,A:=⟨2,[],[.str,.int .i64]⟩,R:=⟨1,[],[.str]⟩,F:=λx=>ah8 d x.1 x.2,dflt:=[] }
theorem awb (d:Nat):(ats d).Ok Tryz.prog:=by intro x y h;obtain ⟨s,c⟩:=x;have h:ah8 d s c=some y:=h;unfold ah8 at h;obtain ⟨m,rfl⟩:=abg h;simp only [Ag,Nat.ble_eq,Av] at m;obtain ⟨⟨O,X⟩,U⟩:=m;obtain ⟨n,rfl⟩:∃ n:Nat,c=(n:Int):=⟨c.toNat,(Int.toNat_of_nonneg O).symm⟩;refine acu (aay Tryz.func254 (by kernel_rfl) (by kernel_rfl)) (λD ow μ w z o=>?_);obtain ⟨v,u,rfl,H,M⟩:=bhk o;cases H;cases M;refine (Tryz.strings_Repeat ⟨s.toArray⟩ n w (by omega) (by simpa [ByteArray.size] using U)).mono ?_;rintro e w' ⟨rfl,m⟩;exact ⟨_,rfl,λV W st'=>.str,m⟩
def aa1 (d:Nat) (s bs:Bo):Option (Int×Value×Bo):=bif Nat.ble (bs.length+s.length) 140737488355328 then some ((s.length:Int),.nilIface,bs++s) else none
def ah9 (d:Nat) (bs:Bo):Option (Bo×Bo):=some (bs,bs)
def ay5 (d:Nat) (bs:Bo):Option (Int×Bo):=some ((bs.length:Int),bs)
def agp (d:Nat):CallE:={ f:=66,A:=⟨2,[.bld 106],[.con (.bref 0 106),.str,.str]⟩,R:=⟨2,[.bld 106],[.int .i64,.raw,.str]⟩,F:=λx=>aa1 d x.2.1 x.2.2,dflt:=(0,undef,[]) }
theorem awl:a8j 106:=⟨by kernel_rfl,by decide,by kernel_rfl⟩
theorem ak3 (d:Nat):(agp d).Ok Tryz.prog:=by intro x y h;obtain ⟨_,s,bs⟩:=x;have h:aa1 d s bs=some y:=h;unfold aa1 at h;obtain ⟨m,rfl⟩:=abg h;exact ahd awl bs s (by simpa using m)
def an0 (d:Nat):CallE:={ f:=69,A:=⟨1,[.bld 106],[.con (.bref 0 106),.str]⟩,R:=⟨1,[.bld 106],[.str,.str]⟩,F:=λx=>ah9 d x.2,dflt:=([],[]) }
theorem atv (d:Nat):(an0 d).Ok Tryz.prog:=by intro x y h;obtain ⟨_,bs⟩:=x;have h:some (bs,bs)=some y:=h;cases h;exact aoo awl bs
end Go.Ab
