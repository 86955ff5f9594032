/- Go's library: contracts of the functions that are not printed. -/
import Derived.Test.YtcpkdafleaddlaaGreatDoorAbBldP
import Derived.Lib.Join
import Derived.Lib.Repeat
import Derived.Sort.Grow
import Derived.Lib.LaidTab
set_option linter.unusedVariables false
set_option linter.unusedSimpArgs false
set_option linter.unnecessarySimpa false
namespace Go.Ab
open Go Go.Proofs Go.RowKit
theorem adp {P:Program}{f:FuncId}{args rs:List SV} (W:aj1 P f) (h:∀ (D:Dom) (ow:Own) (μ:Nat->Nat) (w:World) (m:Array Value),Pre P D ow μ [] w args m->Calls P f m w λe w'=>∃ v,e=.returned v/\atg P D w' (ad2 rs) v/\Below w.heap.size w w'):Meets P f args [] rs []:=by refine ⟨W,λD ow μ w m H=>(h D ow μ w m H).mono ?_⟩;rintro e w' ⟨v,rfl,V,z⟩;obtain ⟨O,U⟩:=aic (V (λ_=>none) μ []);refine ⟨v,D,U.symm,λ_ _ d=>d,λ_ _ d=>Or.inl d,⟨λ_=>none,μ,⟨λk b h=>(by simp at h),λb k h=>(by cases h),λb o d=>Aw (H.dlt b o d) z.size,λb k x h=>(by cases h)⟩,O,λb k h=>(by cases h),λk b h=>(by simp at h),λk E g xs X h=>(by simp at h)⟩,z.os,z.tape,z.output,z.size,λb M _=>z.block b M,Keeps.of_heap λb o d=>z.block b (H.dlt b o d)⟩
theorem az5 (w:World) (k:Nat) (d:Array Obj):Below w.heap.size w (Sort.grow (w.drewN k) d):=by refine ⟨rfl,rfl,rfl,by simp [Sort.grow,World.drewN],λb m=>?_⟩;show ((w.drewN k).heap++d)[b]?=_;rw [Array.getElem?_append_left (by exact m)];rfl
def decF:Nat->Nat->Bq
 | 0,_=>[]
 | f+1,u=>bif Nat.ble u 9 then [UInt8.ofNat (48+u)] else decF f (u / 10)++[UInt8.ofNat (48+u%10)]
theorem bca:∀ (f u:Nat),u<10^(f+1)->decF (f+1) u=Lib.decDigits u:=by
 intro f;induction f with
 | zero=>
  intro u m;have d:Nat.ble u 9=true:=by rw [Nat.ble_eq];omega
  rw [Lib.decDigits,dif_pos (by omega)];simp only [decF,d,Ad]
 | succ f o=>
  intro u m;rw [Lib.decDigits];by_cases h:u<10
  ·have d:Nat.ble u 9=true:=by rw [Nat.ble_eq];omega
   rw [dif_pos h,decF,d];rfl
  ·have d:Nat.ble u 9=false:=by rw [<-Bool.not_eq_true,Nat.ble_eq];omega
   rw [dif_neg h,decF,d];show decF (f+1) (u / 10)++_=_;rw [o (u / 10) (by rw [Nat.pow_succ] at m;omega)]
def decB (u:Nat):Bq:=decF 20 u
theorem ahs {u:Nat} (h:u<100000000000000000000):decB u=Lib.decDigits u:=bca 19 u (by simpa using h)
theorem tab10 {ow:Own}{w:World} (h:Tabs Tryz.prog ow w):Lib.TabIs Tryz.prog w "internal/strconv.uint64pow10" .u64 Lib.pow10Tab:=by
 have m:Tryz.prog.globalNamed "internal/strconv.uint64pow10"=some 1:=by kernel_rfl
 obtain ⟨_,cs,T,z,o,d⟩:=h _ (List.mem_cons_self ..) _ m;have d:cs=((List.range 20).map λi=>Value.int .u64 ((10^i:Nat):Int)).toArray:=d;subst d;simp [Lib.TabIs,World.var?,m,o,Lib.pow10Tab]
theorem bdi {P:Program}{D:Dom}{ow:Own}{μ:Nat->Nat}{st:List BX}{w:World}{s:SV}{d:Array Value} (m:Pre P D ow μ st w [s] d):∃ v,d=#[v]/\SRep P D w ow μ st s v:=by
 have:=m.size;match d,this,m with
 | ⟨[a]⟩,_,m=>exact ⟨a,rfl,m.arg 0 _ a rfl rfl⟩
theorem bdj {P:Program}{D:Dom}{ow:Own}{μ:Nat->Nat}{st:List BX}{w:World}{s t:SV}{m:Array Value} (d:Pre P D ow μ st w [s,t] m):∃ u v,m=#[u,v]/\SRep P D w ow μ st s u/\SRep P D w ow μ st t v:=by
 have:=d.size;match m,this,d with
 | ⟨[a,b]⟩,_,d=>exact ⟨a,b,rfl,d.arg 0 _ a rfl rfl,d.arg 1 _ b rfl rfl⟩
def ak6 (d:Nat) (s:Bq) (c:Int):Option Bq:=
 bif decide (0<=c)&&decide (c<=9223372036854775807)&&Nat.ble (s.length*c.toNat) 140737488355328 then some (Lib.repeatL s c.toNat) else none
def aye (d:Nat):CallE:={ f:=254,A:=⟨2,[],[.str,.int .i64]⟩,R:=⟨1,[],[.str]⟩,F:=λx=>ak6 d x.1 x.2,dflt:=[] }
theorem a2n (d:Nat):(aye d).Ok Tryz.prog:=by intro x y h;obtain ⟨s,c⟩:=x;have h:ak6 d s c=some y:=h;unfold ak6 at h;obtain ⟨m,rfl⟩:=abm h;simp only [Ai,Nat.ble_eq,Ay] at m;obtain ⟨⟨O,X⟩,U⟩:=m;obtain ⟨n,rfl⟩:∃ n:Nat,c=(n:Int):=⟨c.toNat,(Int.toNat_of_nonneg O).symm⟩;refine adp (aa5 Tryz.func254 (by kernel_rfl) (by kernel_rfl)) (λD ow μ w z o=>?_);obtain ⟨v,u,rfl,H,M⟩:=bdj o;cases H;cases M;refine (Tryz.strings_Repeat ⟨s.toArray⟩ n w (by omega) (by simpa [ByteArray.size] using U)).mono ?_;rintro e w' ⟨rfl,m⟩;exact ⟨_,rfl,λV W st'=>.str,m⟩
def ab3 (d:Nat) (s bs:Bq):Option (Int×Value×Bq):=bif Nat.ble (bs.length+s.length) 140737488355328 then some ((s.length:Int),.nilIface,bs++s) else none
def avz (d:Nat) (bs:Bq):Option (Bq×Bq):=some (bs,bs)
def afx (d:Nat):CallE:={ f:=66,A:=⟨2,[.bld 106],[.con (.bref 0 106),.str,.str]⟩,R:=⟨2,[.bld 106],[.int .i64,.raw,.str]⟩,F:=λx=>ab3 d x.2.1 x.2.2,dflt:=(0,undef,[]) }
theorem atx:bb0 106:=⟨by kernel_rfl,by decide,by kernel_rfl⟩
theorem aj2 (d:Nat):(afx d).Ok Tryz.prog:=by intro x y h;obtain ⟨_,s,bs⟩:=x;have h:ab3 d s bs=some y:=h;unfold ab3 at h;obtain ⟨m,rfl⟩:=abm h;exact aly atx bs s (by simpa using m)
def alz (d:Nat):CallE:={ f:=69,A:=⟨1,[.bld 106],[.con (.bref 0 106),.str]⟩,R:=⟨1,[.bld 106],[.str,.str]⟩,F:=λx=>avz d x.2,dflt:=([],[]) }
theorem aq5 (d:Nat):(alz d).Ok Tryz.prog:=by intro x y h;obtain ⟨_,bs⟩:=x;have h:some (bs,bs)=some y:=h;cases h;exact avm atx bs
end Go.Ab
