/- Go's library: contracts of the functions that are not printed. -/
import Derived.Test.YtcpkdafleaddlaaGreatDoorAbBldP
import Derived.Lib.Join
import Derived.Lib.Repeat
import Derived.Sort.Grow
import Derived.Lib.LaidTab
set_option linter.unusedVariables false
set_option linter.unusedSimpArgs false
set_option linter.unnecessarySimpa false
namespace Go.Ab
open Go Go.Proofs Go.RowKit
theorem ac0 {P:Program}{f:FuncId}{args rs:List SV} (W:als P f) (h:∀ (D:Dom) (ow:Own) (μ:Nat->Nat) (w:World) (m:Array Value),Pre P D ow μ [] w args m->Calls P f m w λe w'=>∃ v,e=.returned v/\awx P D w' (aet rs) v/\Below w.heap.size w w'):Meets P f args [] rs []:=by refine ⟨W,λD ow μ w m H=>(h D ow μ w m H).mono ?_⟩;rintro e w' ⟨v,rfl,V,z⟩;obtain ⟨O,U⟩:=ajn (V (λ_=>none) μ []);refine ⟨v,D,U.symm,λ_ _ d=>d,λ_ _ d=>Or.inl d,⟨λ_=>none,μ,⟨λk b h=>(by simp at h),λb k h=>(by cases h),λb o d=>A0 (H.dlt b o d) z.size,λb k x h=>(by cases h)⟩,O,λb k h=>(by cases h),λk b h=>(by simp at h),λk E g xs X h=>(by simp at h)⟩,z.os,z.tape,z.output,z.size,λb M _=>z.block b M,Keeps.of_heap λb o d=>z.block b (H.dlt b o d)⟩
theorem atc (w:World) (k:Nat) (d:Array Obj):Below w.heap.size w (Sort.grow (w.drewN k) d):=by refine ⟨rfl,rfl,rfl,by simp [Sort.grow,World.drewN],λb m=>?_⟩;show ((w.drewN k).heap++d)[b]?=_;rw [Array.getElem?_append_left (by exact m)];rfl
def decF:Nat->Nat->Bo
 | 0,_=>[]
 | f+1,u=>bif Nat.ble u 9 then [UInt8.ofNat (48+u)] else decF f (u / 10)++[UInt8.ofNat (48+u%10)]
theorem bkg:∀ (f u:Nat),u<10^(f+1)->decF (f+1) u=Lib.decDigits u:=by
 intro f;induction f with
 | zero=>
  intro u m;have d:Nat.ble u 9=true:=by rw [Nat.ble_eq];omega
  rw [Lib.decDigits,dif_pos (by omega)];simp only [decF,d,Ad]
 | succ f o=>
  intro u m;rw [Lib.decDigits];by_cases h:u<10
  ·have d:Nat.ble u 9=true:=by rw [Nat.ble_eq];omega
   rw [dif_pos h,decF,d];rfl
  ·have d:Nat.ble u 9=false:=by rw [<-Bool.not_eq_true,Nat.ble_eq];omega
   rw [dif_neg h,decF,d];show decF (f+1) (u / 10)++_=_;rw [o (u / 10) (by rw [Nat.pow_succ] at m;omega)]
def decB (u:Nat):Bo:=decF 20 u
theorem af0 {u:Nat} (h:u<100000000000000000000):decB u=Lib.decDigits u:=bkg 19 u (by simpa using h)
def amb (n:Int):Bo:=bif decide (n<0) then 45::decB n.natAbs else decB n.toNat
theorem bgt {n:Int} (d:-9223372036854775808<=n) (m:n<=9223372036854775807):amb n=Lib.itoa n:=by
 unfold amb Lib.itoa;by_cases h:n<0
 ·simp only [h,decide_true,Ad,Ba];rw [af0 (by omega)]
 ·simp only [h,decide_false,Ae,Bb];rw [af0 (by omega)]
theorem bpf {ow:Own}{w:World} (h:Tabs Tryz.prog ow w):Lib.TabIs Tryz.prog w "internal/strconv.uint64pow10" .u64 Lib.pow10Tab:=by
 have m:Tryz.prog.globalNamed "internal/strconv.uint64pow10"=some 1:=by kernel_rfl
 obtain ⟨_,cs,T,z,o,d⟩:=h _ (List.mem_cons_self ..) _ m;have d:cs=((List.range 20).map λi=>Value.int .u64 ((10^i:Nat):Int)).toArray:=d;subst d;simp [Lib.TabIs,World.var?,m,o,Lib.pow10Tab]
theorem bi6 {P:Program}{D:Dom}{ow:Own}{μ:Nat->Nat}{st:List BX}{w:World}{s:SV}{d:Array Value} (m:Pre P D ow μ st w [s] d):∃ v,d=#[v]/\SRep P D w ow μ st s v:=by
 have:=m.size;match d,this,m with
 | ⟨[a]⟩,_,m=>exact ⟨a,rfl,m.arg 0 _ a rfl rfl⟩
theorem bi7 {P:Program}{D:Dom}{ow:Own}{μ:Nat->Nat}{st:List BX}{w:World}{s t:SV}{m:Array Value} (d:Pre P D ow μ st w [s,t] m):∃ u v,m=#[u,v]/\SRep P D w ow μ st s u/\SRep P D w ow μ st t v:=by
 have:=d.size;match m,this,d with
 | ⟨[a,b]⟩,_,d=>exact ⟨a,b,rfl,d.arg 0 _ a rfl rfl,d.arg 1 _ b rfl rfl⟩
def alt (d:Nat) (n:Int):Option Bo:=bif decide (-9223372036854775808<=n)&&decide (n<=9223372036854775807) then some (amb n) else none
def aw1 (d:Nat):CallE:={ f:=148,A:=⟨1,[],[.int .i64]⟩,R:=⟨1,[],[.str]⟩,F:=λx=>alt d x,dflt:=[] }
theorem auk (d:Nat):(aw1 d).Ok Tryz.prog:=by intro n y h;have h:alt d n=some y:=h;unfold alt at h;obtain ⟨m,rfl⟩:=abh h;simp only [Ag,Aw] at m;refine ac0 (aaz Tryz.func148 (by kernel_rfl) (by kernel_rfl)) (λD ow μ w z o=>?_);obtain ⟨v,rfl,H⟩:=bi6 o;cases H;refine (Tryz.strconv_Itoa n m.1 m.2 w (bpf o.tabs)).mono ?_;rintro e w' ⟨rfl,k,M,rfl⟩;refine ⟨_,rfl,λO U st'=>?_,atc w k M⟩;rw [<-bgt m.1 m.2];exact .str
theorem bdk {P:Program}{D:Dom}{w:World}{T:TypeId}{p:PV}{cs:List Value} (h:Rep P D w T p cs) (d:P.underlying T=some .string):cs=[.string ⟨p.asStr.toArray⟩]:=by
 cases h with
 | str _=>rfl
 | raw h=>simp [rawT,d] at h
 | bool h=>rw [d] at h;cases h
 | int h=>rw [d] at h;cases h
 | nil h=>rw [d] at h;cases h
 | slice h=>rw [d] at h;cases h
 | agg h=>rw [d] at h;cases h
 | arr h=>rw [d] at h;cases h
 | mapnil h=>rw [d] at h;cases h
 | map _ _ h=>rw [d] at h;cases h
theorem bpg {L:List Value}{j:Nat}{v:Value} (h:(L.drop (j*1)).take 1=[v]):L[j]?=some v:=by
 have d:((L.drop (j*1)).take 1)[0]?=some v:=by rw [h];rfl
 rw [List.getElem?_take_of_lt (by omega),List.getElem?_drop,Nat.mul_one] at d;simpa using d
def aqe (m:Nat) (xs:List PV) (d:Bo):Option Bo:=
 bif Nat.ble xs.length 140737488355328&&Nat.ble (d.intercalate (xs.map PV.asStr)).length 140737488355328 then some (d.intercalate (xs.map PV.asStr)) else none
def a3c (d:Nat):CallE:={ f:=74,A:=⟨2,[],[.slice 9,.str]⟩,R:=⟨1,[],[.str]⟩,F:=λx=>aqe d x.1 x.2,dflt:=[] }
theorem azy (z:Nat):(a3c z).Ok Tryz.prog:=by
 intro x y h;obtain ⟨xs,d⟩:=x;have h:aqe z xs d=some y:=h;unfold aqe at h;obtain ⟨O,rfl⟩:=abh h;simp only [Ag,Nat.ble_eq] at O;refine ac0 (aaz Tryz.func74 (by kernel_rfl) (by kernel_rfl)) (λD ow μ w ab Y=>?_);obtain ⟨v,u,rfl,M,h2⟩:=bi7 Y;cases h2;cases M with
 | slice M=>
  cases M with
  | @nil a c _=>refine (Tryz.strings_Join_none a c ⟨d.toArray⟩ w).mono ?_;rintro e w' ⟨rfl,rfl⟩;exact ⟨_,rfl,λX Z st'=>.str,Below.refl _ _⟩
  | @mk b off cap _ L V hL hr hh=>
   have U:Tryz.prog.cellsOf 9=1:=by kernel_rfl
   by_cases h0:xs.length=0
   ·have:xs=[]:=List.length_eq_zero_iff.1 h0;subst this;refine (Tryz.strings_Join_none (some ⟨b,off,none⟩) cap ⟨d.toArray⟩ w).mono ?_;rintro e w' ⟨rfl,rfl⟩;exact ⟨_,rfl,λX Z st'=>.str,Below.refl _ _⟩
   ·have H:(xs.map λx=>(⟨x.asStr.toArray⟩:ByteArray)).map (λb=>b.data.toList)=xs.map PV.asStr:=by simp
    have o:∀ (j:Nat) x,(xs.map λx=>(⟨x.asStr.toArray⟩:ByteArray))[j]?=some x->w.cell? ⟨b,off+j,none⟩=some (.string x):=by intro j x hx;simp only [List.getElem?_map,Option.map_eq_some_iff] at hx;obtain ⟨p,hp,rfl⟩:=hx;have m:=hr j p hp;rw [U] at m;have M:=bpg (bdk m Tryz.underlying9);exact (hh j _ M).2
    have aa:b<w.heap.size:=by have hp:xs[0]?=some xs[0]:=Ar (by omega);have m:=hr 0 _ hp;rw [U] at m;exact Y.dlt b _ (hh 0 _ (bpg (bdk m Tryz.underlying9))).1
    have W:(Lib.join ((xs.map λx=>(⟨x.asStr.toArray⟩:ByteArray)).map (·.data.toList)) (⟨d.toArray⟩:ByteArray).data.toList)=d.intercalate (xs.map PV.asStr):=by rw [H];rfl
    have:=Tryz.strings_Join b off cap (xs.map λx=>(⟨x.asStr.toArray⟩:ByteArray)) ⟨d.toArray⟩ w o aa (by simpa using O.1) (by simpa using V) (by rw [W];exact O.2);rw [W,List.length_map] at this;refine this.mono ?_;rintro e w' ⟨rfl,O⟩;exact ⟨_,rfl,λX Z st'=>.str,O⟩
def aim (d:Nat) (s:Bo) (c:Int):Option Bo:=
 bif decide (0<=c)&&decide (c<=9223372036854775807)&&Nat.ble (s.length*c.toNat) 140737488355328 then some (Lib.repeatL s c.toNat) else none
def aum (d:Nat):CallE:={ f:=254,A:=⟨2,[],[.str,.int .i64]⟩,R:=⟨1,[],[.str]⟩,F:=λx=>aim d x.1 x.2,dflt:=[] }
theorem aw3 (d:Nat):(aum d).Ok Tryz.prog:=by intro x y h;obtain ⟨s,c⟩:=x;have h:aim d s c=some y:=h;unfold aim at h;obtain ⟨m,rfl⟩:=abh h;simp only [Ag,Nat.ble_eq,Aw] at m;obtain ⟨⟨O,X⟩,U⟩:=m;obtain ⟨n,rfl⟩:∃ n:Nat,c=(n:Int):=⟨c.toNat,(Int.toNat_of_nonneg O).symm⟩;refine ac0 (aaz Tryz.func254 (by kernel_rfl) (by kernel_rfl)) (λD ow μ w z o=>?_);obtain ⟨v,u,rfl,H,M⟩:=bi7 o;cases H;cases M;refine (Tryz.strings_Repeat ⟨s.toArray⟩ n w (by omega) (by simpa [ByteArray.size] using U)).mono ?_;rintro e w' ⟨rfl,m⟩;exact ⟨_,rfl,λV W st'=>.str,m⟩
def aa2 (d:Nat) (s bs:Bo):Option (Int×Value×Bo):=bif Nat.ble (bs.length+s.length) 140737488355328 then some ((s.length:Int),.nilIface,bs++s) else none
def ain (d:Nat) (bs:Bo):Option (Bo×Bo):=some (bs,bs)
def azz (d:Nat) (bs:Bo):Option (Int×Bo):=some ((bs.length:Int),bs)
def agu (d:Nat):CallE:={ f:=66,A:=⟨2,[.bld 106],[.con (.bref 0 106),.str,.str]⟩,R:=⟨2,[.bld 106],[.int .i64,.raw,.str]⟩,F:=λx=>aa2 d x.2.1 x.2.2,dflt:=(0,undef,[]) }
theorem axd:a9p 106:=⟨by kernel_rfl,by decide,by kernel_rfl⟩
theorem alu (d:Nat):(agu d).Ok Tryz.prog:=by intro x y h;obtain ⟨_,s,bs⟩:=x;have h:aa2 d s bs=some y:=h;unfold aa2 at h;obtain ⟨m,rfl⟩:=abh h;exact ahm axd bs s (by simpa using m)
def aom (d:Nat):CallE:={ f:=69,A:=⟨1,[.bld 106],[.con (.bref 0 106),.str]⟩,R:=⟨1,[.bld 106],[.str,.str]⟩,F:=λx=>ain d x.2,dflt:=([],[]) }
theorem aup (d:Nat):(aom d).Ok Tryz.prog:=by intro x y h;obtain ⟨_,bs⟩:=x;have h:some (bs,bs)=some y:=h;cases h;exact ao9 axd bs
end Go.Ab
