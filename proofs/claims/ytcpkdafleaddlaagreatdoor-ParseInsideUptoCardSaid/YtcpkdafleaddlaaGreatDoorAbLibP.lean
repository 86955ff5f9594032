/- Go's library: contracts of the functions that are not printed. -/
import Derived.Test.YtcpkdafleaddlaaGreatDoorAbLoop
import Derived.Test.YtcpkdafleaddlaaGreatDoorAbBldP
import Derived.Test.YtcpkdafleaddlaaGreatDoorTryzShelf
import Derived.Lib.ItoaNum
import Derived.Lib.Join
import Derived.Lib.Repeat
import Derived.Sort.Grow
import Derived.Lib.LaidTab
set_option linter.unusedVariables false
set_option linter.unusedSimpArgs false
set_option linter.unnecessarySimpa false
namespace Go.Ab
open Go Go.Proofs Go.RowKit
theorem adc {P:Program}{f:FuncId}{args rs:List SV} (he:ajw P f) (h:∀ (D:Dom) (ow:Own) (μ:Nat->Nat) (w:World) (vals:Array Value),Pre P D ow μ [] w args vals->Calls P f vals w fun e w'=>∃ v,e=.returned v/\atn P D w' (ado rs) v/\Below w.heap.size w w'):Meets P f args [] rs []:=by
 refine ⟨he,fun D ow μ w vals pre=>(h D ow μ w vals pre).mono ?_⟩
 rintro e w' ⟨v,rfl,hc,hb⟩
 obtain ⟨hc1,hc2⟩:=agw (hc (fun _=>none) μ [])
 refine ⟨v,D,hc2.symm,fun _ _ d=>d,fun _ _ d=>Or.inl d,⟨fun _=>none,μ,⟨fun k b h=>(by simp at h),fun b k h=>(by cases h),fun b o d=>Nat.lt_of_lt_of_le (pre.dlt b o d) hb.size,fun b k x h=>(by cases h)⟩,hc1,fun b k h=>(by cases h),fun k b h=>(by simp at h),fun k E g xs ys h=>(by simp at h)⟩,hb.os,hb.tape,hb.output,hb.size,fun b hb' _=>hb.block b hb',Keeps.of_heap fun b o d=>hb.block b (pre.dlt b o d)⟩
theorem ayk (w:World) (k:Nat) (os:Array Obj):Below w.heap.size w (Sort.grow (w.drewN k) os):=by
 refine ⟨rfl,rfl,rfl,by simp [Sort.grow,World.drewN],fun b hb=>?_⟩
 show ((w.drewN k).heap++os)[b]?=_
 rw [Array.getElem?_append_left (by exact hb)]
 rfl
def decF:Nat->Nat->List UInt8
 | 0,_=>[]
 | f+1,u=>bif Nat.ble u 9 then [UInt8.ofNat (48+u)] else decF f (u / 10)++[UInt8.ofNat (48+u%10)]
theorem a8s:∀ (f u:Nat),u<10^(f+1)->decF (f+1) u=Lib.decDigits u:=by
 intro f
 induction f with
 | zero=>
  intro u hu
  have h9:Nat.ble u 9=true:=by rw [Nat.ble_eq];omega
  rw [Lib.decDigits,dif_pos (by omega)]
  simp only [decF,h9,cond_true]
 | succ f ih=>
  intro u hu
  rw [Lib.decDigits]
  by_cases h:u<10
  ·have h9:Nat.ble u 9=true:=by rw [Nat.ble_eq];omega
   rw [dif_pos h,decF,h9];rfl
  ·have h9:Nat.ble u 9=false:=by rw [<-Bool.not_eq_true,Nat.ble_eq];omega
   rw [dif_neg h,decF,h9]
   show decF (f+1) (u / 10)++_=_
   rw [ih (u / 10) (by rw [Nat.pow_succ] at hu;omega)]
def decB (u:Nat):List UInt8:=decF 20 u
theorem anj {u:Nat} (h:u<100000000000000000000):decB u=Lib.decDigits u:=a8s 19 u (by simpa using h)
theorem tab10 {ow:Own}{w:World} (h:Tabs Tryz.prog ow w):Lib.TabIs Tryz.prog w "internal/strconv.uint64pow10" .u64 Lib.pow10Tab:=by
 have hg:Tryz.prog.globalNamed "internal/strconv.uint64pow10"=some 1:=by kernel_rfl
 obtain ⟨_,cs,T,fr,h1,h2⟩:=h _ (List.mem_cons_self ..) _ hg
 have h2:cs=((List.range 20).map fun i=>Value.int .u64 ((10^i:Nat):Int)).toArray:=h2
 subst h2
 simp [Lib.TabIs,World.var?,hg,h1,Lib.pow10Tab]
theorem a8t {P:Program}{D:Dom}{ow:Own}{μ:Nat->Nat}{st:List BX}{w:World}{s:SV}{vals:Array Value} (pre:Pre P D ow μ st w [s] vals):∃ v,vals=#[v]/\SRep P D w ow μ st s v:=by
 have:=pre.size
 match vals,this,pre with
 | ⟨[a]⟩,_,pre=>exact ⟨a,rfl,pre.arg 0 _ a rfl rfl⟩
theorem a9f {P:Program}{D:Dom}{ow:Own}{μ:Nat->Nat}{st:List BX}{w:World}{s t:SV}{vals:Array Value} (pre:Pre P D ow μ st w [s,t] vals):∃ u v,vals=#[u,v]/\SRep P D w ow μ st s u/\SRep P D w ow μ st t v:=by
 have:=pre.size
 match vals,this,pre with
 | ⟨[a,b]⟩,_,pre=>exact ⟨a,b,rfl,pre.arg 0 _ a rfl rfl,pre.arg 1 _ b rfl rfl⟩
def akp (fuel:Nat) (s:List UInt8) (c:Int):Option (List UInt8):=
 bif decide (0<=c)&&decide (c<=9223372036854775807)&&Nat.ble (s.length*c.toNat) 140737488355328 then some (Lib.repeatL s c.toNat) else none
def aw6 (fuel:Nat):CallE:={ f:=254,A:=⟨2,[],[.str,.int .i64]⟩,R:=⟨1,[],[.str]⟩,F:=fun x=>akp fuel x.1 x.2,dflt:=[] }
theorem a1f (fuel:Nat):(aw6 fuel).Ok Tryz.prog:=by
 intro x y h
 obtain ⟨s,c⟩:=x
 have h:akp fuel s c=some y:=h
 unfold akp at h
 obtain ⟨hb,rfl⟩:=abc h
 simp only [Bool.and_eq_true,Nat.ble_eq,decide_eq_true_eq] at hb
 obtain ⟨⟨h0,h1⟩,h2⟩:=hb
 obtain ⟨n,rfl⟩:∃ n:Nat,c=(n:Int):=⟨c.toNat,(Int.toNat_of_nonneg h0).symm⟩
 refine adc (aay Tryz.func254 (by kernel_rfl) (by kernel_rfl)) (fun D ow μ w vals pre=>?_)
 obtain ⟨v,u,rfl,a1,a2⟩:=a9f pre
 cases a1;cases a2
 refine (Tryz.strings_Repeat ⟨s.toArray⟩ n w (by omega) (by simpa [ByteArray.size] using h2)).mono ?_
 rintro e w' ⟨rfl,hb⟩
 exact ⟨_,rfl,fun ow' μ' st'=>.str,hb⟩
def abz (fuel:Nat) (s bs:List UInt8):Option (Int×Value×List UInt8):=bif Nat.ble (bs.length+s.length) 140737488355328 then some ((s.length:Int),.nilIface,bs++s) else none
def auf (fuel:Nat) (bs:List UInt8):Option (List UInt8×List UInt8):=some (bs,bs)
def afy (fuel:Nat):CallE:={ f:=66,A:=⟨2,[.bld 106],[.con (.bref 0 106),.str,.str]⟩,R:=⟨2,[.bld 106],[.int .i64,.raw,.str]⟩,F:=fun x=>abz fuel x.2.1 x.2.2,dflt:=(0,undef,[]) }
theorem asw:a8q 106:=⟨by kernel_rfl,by decide,by kernel_rfl⟩
theorem ajc (fuel:Nat):(afy fuel).Ok Tryz.prog:=by
 intro x y h
 obtain ⟨_,s,bs⟩:=x
 have h:abz fuel s bs=some y:=h
 unfold abz at h
 obtain ⟨hb,rfl⟩:=abc h
 exact akj asw bs s (by simpa using hb)
def ala (fuel:Nat):CallE:={ f:=69,A:=⟨1,[.bld 106],[.con (.bref 0 106),.str]⟩,R:=⟨1,[.bld 106],[.str,.str]⟩,F:=fun x=>auf fuel x.2,dflt:=([],[]) }
theorem aqa (fuel:Nat):(ala fuel).Ok Tryz.prog:=by
 intro x y h
 obtain ⟨_,bs⟩:=x
 have h:some (bs,bs)=some y:=h
 cases h
 exact as2 asw bs
end Go.Ab
