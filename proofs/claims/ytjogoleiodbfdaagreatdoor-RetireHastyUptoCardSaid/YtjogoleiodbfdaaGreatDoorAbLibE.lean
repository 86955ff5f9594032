/- Go's library: contracts of the functions that are not printed. -/
import Derived.Test.YtjogoleiodbfdaaGreatDoorAbBldE
import Derived.Lib.ItoaNum
import Derived.Lib.Join
import Derived.Lib.Repeat
import Derived.Sort.Grow
import Derived.Lib.LaidTab
set_option linter.unusedVariables false
set_option linter.unusedSimpArgs false
set_option linter.unnecessarySimpa false
namespace Go.Ab
open Go Go.Proofs Go.RowKit
theorem afy {P:Program}{f:FuncId}{args rs:List SV} (he:alq P f) (h:∀ (D:Dom) (ow:Own) (μ:Nat->Nat) (w:World) (H:Array Value),Pre P D ow μ [] w args H->Calls P f H w λe w'=>∃ v,e=.returned v/\ay0 P D w' (ac9 rs) v/\Below w.heap.size w w'):Meets P f args [] rs []:=by refine ⟨he,λD ow μ w H J=>(h D ow μ w H J).mono ?_⟩;rintro e w' ⟨v,rfl,hc,I⟩;obtain ⟨O,Z⟩:=af4 (hc (λ_=>none) μ []);refine ⟨v,D,Z.symm,λ_ _ d=>d,λ_ _ d=>Or.inl d,⟨λ_=>none,μ,⟨λk b h=>(by simp at h),λb k h=>(by cases h),λb o d=>A4 (J.dlt b o d) I.size,λb k x h=>(by cases h)⟩,O,λb k h=>(by cases h),λk b h=>(by simp at h),λk E g xs ys h=>(by simp at h)⟩,I.os,I.tape,I.output,I.size,λb M _=>I.block b M,Keeps.of_heap λb o d=>I.block b (J.dlt b o d)⟩
theorem aok (w:World) (k:Nat) (h:Array Obj):Below w.heap.size w (Sort.grow (w.drewN k) h):=by refine ⟨rfl,rfl,rfl,by simp [Sort.grow,World.drewN],λb o=>?_⟩;show ((w.drewN k).heap++h)[b]?=_;rw [Array.getElem?_append_left (by exact o)];rfl
def decF:Nat->Nat->Bt
 | 0,_=>[]
 | f+1,u=>bif Nat.ble u 9 then [UInt8.ofNat (48+u)] else decF f (u / 10)++[UInt8.ofNat (48+u%10)]
theorem a7x:∀ (f u:Nat),u<10^(f+1)->decF (f+1) u=Lib.decDigits u:=by
 intro f;induction f with
 | zero=>
  intro u H;have o:Nat.ble u 9=true:=by rw [Nat.ble_eq];omega
  rw [Lib.decDigits,dif_pos (by omega)];simp only [decF,o,Af]
 | succ f I=>
  intro u H;rw [Lib.decDigits];by_cases h:u<10
  ·have o:Nat.ble u 9=true:=by rw [Nat.ble_eq];omega
   rw [dif_pos h,decF,o];rfl
  ·have o:Nat.ble u 9=false:=by rw [<-Bool.not_eq_true,Nat.ble_eq];omega
   rw [dif_neg h,decF,o];show decF (f+1) (u / 10)++_=_;rw [I (u / 10) (by rw [Nat.pow_succ] at H;omega)]
def decB (u:Nat):Bt:=decF 20 u
theorem apm {u:Nat} (h:u<100000000000000000000):decB u=Lib.decDigits u:=a7x 19 u (by simpa using h)
def alp (n:Int):Bt:=bif decide (n<0) then 45::decB n.natAbs else decB n.toNat
theorem a4t {n:Int} (o:-9223372036854775808<=n) (H:n<=9223372036854775807):alp n=Lib.itoa n:=by
 unfold alp Lib.itoa;by_cases h:n<0
 ·simp only [h,decide_true,Af,A9];rw [apm (by omega)]
 ·simp only [h,decide_false,Ah,A8];rw [apm (by omega)]
theorem ba5 {ow:Own}{w:World} (h:Tabs Tryz.prog ow w):Lib.TabIs Tryz.prog w "internal/strconv.uint64pow10" .u64 Lib.pow10Tab:=by
 have H:Tryz.prog.globalNamed "internal/strconv.uint64pow10"=some 1:=by kernel_rfl
 obtain ⟨_,cs,T,J,I,o⟩:=h _ (List.mem_cons_self ..) _ H;have o:cs=((List.range 20).map λi=>Value.int .u64 ((10^i:Nat):Int)).toArray:=o;subst o;simp [Lib.TabIs,World.var?,H,I,Lib.pow10Tab]
theorem ba7 {P:Program}{D:Dom}{ow:Own}{μ:Nat->Nat}{st:List BX}{w:World}{s:SV}{h:Array Value} (o:Pre P D ow μ st w [s] h):∃ v,h=#[v]/\SRep P D w ow μ st s v:=by
 have:=o.size;match h,this,o with
 | ⟨[a]⟩,_,o=>exact ⟨a,rfl,o.arg 0 _ a rfl rfl⟩
theorem a9o {P:Program}{D:Dom}{ow:Own}{μ:Nat->Nat}{st:List BX}{w:World}{s t:SV}{o:Array Value} (h:Pre P D ow μ st w [s,t] o):∃ u v,o=#[u,v]/\SRep P D w ow μ st s u/\SRep P D w ow μ st t v:=by
 have:=h.size;match o,this,h with
 | ⟨[a,b]⟩,_,h=>exact ⟨a,b,rfl,h.arg 0 _ a rfl rfl,h.arg 1 _ b rfl rfl⟩
def ata (h:Nat) (n:Int):Option Bt:=bif decide (-9223372036854775808<=n)&&decide (n<=9223372036854775807) then some (alp n) else none
def a6n (h:Nat):CallE:={ f:=222,A:=⟨1,[],[.int .i64]⟩,R:=⟨1,[],[.str]⟩,F:=λx=>ata h x,dflt:=[] }
theorem a7h (o:Nat):(a6n o).Ok Tryz.prog:=by intro n y h;have h:ata o n=some y:=h;unfold ata at h;obtain ⟨H,rfl⟩:=aa3 h;simp only [Aj,A5] at H;refine afy (abf Tryz.func222 (by kernel_rfl) (by kernel_rfl)) (λD ow μ w J I=>?_);obtain ⟨v,rfl,M⟩:=ba7 I;cases M;refine (Tryz.strconv_Itoa n H.1 H.2 w (ba5 I.tabs)).mono ?_;rintro e w' ⟨rfl,k,O,rfl⟩;refine ⟨_,rfl,λZ aa st'=>?_,aok w k O⟩;rw [<-a4t H.1 H.2];exact .str
def aj6 (h:Nat) (s:Bt) (c:Int):Option Bt:=
 bif decide (0<=c)&&decide (c<=9223372036854775807)&&Nat.ble (s.length*c.toNat) 140737488355328 then some (Lib.repeatL s c.toNat) else none
def avl (h:Nat):CallE:={ f:=238,A:=⟨2,[],[.str,.int .i64]⟩,R:=⟨1,[],[.str]⟩,F:=λx=>aj6 h x.1 x.2,dflt:=[] }
theorem ay2 (o:Nat):(avl o).Ok Tryz.prog:=by intro x y h;obtain ⟨s,c⟩:=x;have h:aj6 o s c=some y:=h;unfold aj6 at h;obtain ⟨H,rfl⟩:=aa3 h;simp only [Aj,Nat.ble_eq,A5] at H;obtain ⟨⟨Z,h1⟩,h2⟩:=H;obtain ⟨n,rfl⟩:∃ n:Nat,c=(n:Int):=⟨c.toNat,(Int.toNat_of_nonneg Z).symm⟩;refine afy (abf Tryz.func238 (by kernel_rfl) (by kernel_rfl)) (λD ow μ w J I=>?_);obtain ⟨v,u,rfl,M,O⟩:=a9o I;cases M;cases O;refine (Tryz.strings_Repeat ⟨s.toArray⟩ n w (by omega) (by simpa [ByteArray.size] using h2)).mono ?_;rintro e w' ⟨rfl,H⟩;exact ⟨_,rfl,λaa ab st'=>.str,H⟩
def abw (h:Nat) (s bs:Bt):Option (Int×Value×Bt):=bif Nat.ble (bs.length+s.length) 140737488355328 then some ((s.length:Int),.nilIface,bs++s) else none
def atb (h:Nat) (bs:Bt):Option (Bt×Bt):=some (bs,bs)
def afd (h:Nat):CallE:={ f:=218,A:=⟨2,[.bld 265],[.con (.bref 0 265),.str,.str]⟩,R:=⟨2,[.bld 265],[.int .i64,.raw,.str]⟩,F:=λx=>abw h x.2.1 x.2.2,dflt:=(0,undef,[]) }
theorem aq7:a7e 265:=⟨by kernel_rfl,by decide,by kernel_rfl⟩
theorem ai8 (o:Nat):(afd o).Ok Tryz.prog:=by intro x y h;obtain ⟨_,s,bs⟩:=x;have h:abw o s bs=some y:=h;unfold abw at h;obtain ⟨H,rfl⟩:=aa3 h;exact ak4 aq7 bs s (by simpa using H)
def ak6 (h:Nat):CallE:={ f:=220,A:=⟨1,[.bld 265],[.con (.bref 0 265),.str]⟩,R:=⟨1,[.bld 265],[.str,.str]⟩,F:=λx=>atb h x.2,dflt:=([],[]) }
theorem apc (o:Nat):(ak6 o).Ok Tryz.prog:=by intro x y h;obtain ⟨_,bs⟩:=x;have h:some (bs,bs)=some y:=h;cases h;exact asy aq7 bs
end Go.Ab
