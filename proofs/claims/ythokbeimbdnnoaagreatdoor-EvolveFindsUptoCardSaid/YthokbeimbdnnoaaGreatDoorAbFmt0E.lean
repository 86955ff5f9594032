/- strconv.FormatUint at base 10: the decimal numeral. -/
import Derived.Test.YthokbeimbdnnoaaGreatDoorAbEvoE
import Derived.Lib.ItoaMem
import Derived.BigCall
import Derived.BigGuard
import Derived.Lib.Split
import Derived.Lib.SplitLaws
import Derived.Shelf.Strings.Split
set_option linter.unusedVariables false
set_option linter.unusedSimpArgs false
set_option linter.unnecessarySimpa false
namespace Go.Ab
open Go Go.Proofs Go.Shelf Go.RowKit Go.Sort Go.Lib
theorem arh (w:World) (T:TypeId) (nd:Nat) (hs:nd<=24):Holds (fun (b:UInt8)=>Value.int .u8 (b.toNat:Int)) (w.alloc (.cells zeros24 T)) w.heap.size 0 (Array.replicate nd (0:UInt8)):=fun j hj=>by
 have hj':j<nd:=by simpa using hj
 refine ⟨?_,World.frozen?_alloc_new _ _ _ _⟩
 rw [World.cell?_alloc_new,zeros24_at _ (by omega),getElem!_pos _ j hj]
 simp
theorem fin0 (w:World) (o:Obj) (dk:Array UInt8) (k:Nat):∃ os,(putRow (fun (b:UInt8)=>Value.int .u8 (b.toNat:Int)) (w.alloc o) w.heap.size 0 dk).drewN k=grow (w.drewN k) os:=by
 rw [alloc_eq_grow]
 obtain ⟨os',_,e⟩:=putRow_grow_new (fun (b:UInt8)=>Value.int .u8 (b.toNat:Int)) w #[o] w.heap.size 0 dk (Nat.le_refl _)
 exact ⟨os',by rw [e];rfl⟩
set_option maxHeartbeats 6400000 in
set_option maxRecDepth 100000 in
theorem apd (u:Nat) (hu64:u<18446744073709551616) (w:World) (htab:Lib.TabIs Tryz.prog w "internal/strconv.uint64pow10" .u64 Lib.pow10Tab):
 Calls Tryz.prog 322 #[.int .u64 u,.int .i64 10] w fun e w'=>e=.returned (.string ⟨(Lib.decDigits u).toArray⟩)/\∃ k os,w'=grow (w.drewN k) os:=by
 have e87:∀ args w,(callFunc 223 args).run Tryz.prog w=.ok (.enter 223 args) w:=aa2 Tryz.func223 (by kernel_rfl) (by kernel_rfl)
 have e88:∀ args w,(callFunc 224 args).run Tryz.prog w=.ok (.enter 224 args) w:=aa2 Tryz.func224 (by kernel_rfl) (by kernel_rfl)
 have e89:∀ args w,(callFunc 225 args).run Tryz.prog w=.ok (.enter 225 args) w:=aa2 Tryz.func225 (by kernel_rfl) (by kernel_rfl)
 by_cases hi:u<100
 ·go_enter Tryz.func322,Tryz.ntmps322
  go_wp2_with (go_at_fn 223;refine (Tryz.internal_strconv_small u hi _).mono ?_;rintro e w' ⟨rfl,rfl⟩)
  go_ret
  exact ⟨rfl,0,#[],by simp [World.drewN_zero]⟩
 ·have hu1:1<=u:=by omega
  have hnd20:Lib.nDigits u<=20:=by have:=Lib.numDigits_eq u hu1 hu64;split at this<;>omega
  have hb3:Lib.nDigits u<=23:=by omega
  have hal:Tryz.prog.arrayLen 272=24:=by simp [Program.arrayLen,Tryz.underlying272]
  have hsl1:∀ W,(Instr.sliceAt 272 (.pointer (some ⟨w.heap.size,0,none⟩)) none (some (.int .i64 (Lib.nDigits u:Int))) none).run Tryz.prog W=.ok (.slice (some ⟨w.heap.size,0,none⟩) (Lib.nDigits u) 24) W:=fun W=>by
   rw [run_sliceAt_array_h W 272 ⟨w.heap.size,0,none⟩ (by simp [Program.arrayLen,Program.elem,Tryz.underlying272]) .i64 (Lib.nDigits u:Int) (by omega) (by rw [hal];omega)]
   go_simp
  have hH0:Holds (fun (b:UInt8)=>Value.int .u8 (b.toNat:Int)) (w.alloc (.cells Lib.zeros24 272)) w.heap.size 0 (Array.replicate (Lib.nDigits u) 0):=arh w 272 _ (by omega)
  have hfmt:=Tryz.internal_strconv_formatBase10 w.heap.size 0 24 u (Array.replicate (Lib.nDigits u) 0) (w.alloc (.cells Lib.zeros24 272)) hH0 (by rw [Array.size_replicate];exact Lib.lt_pow_nDigits u) hu64 (by rw [Array.size_replicate];omega)
  rw [Array.size_replicate] at hfmt
  have HH0:=Lib.hid hH0
  clear hH0 hal
  go_enter Tryz.func322,Tryz.ntmps322
  go_wp2_with (first
   | (go_at_fn 224;refine (Tryz.internal_strconv_numDigits u hu1 hu64 _ (Lib.tabIs_alloc htab _)).mono ?_;rintro e w' ⟨rfl,rfl⟩))
  go_at_fn 225
  refine hfmt.mono ?_
  rintro e w' ⟨rfl,k,v',dk,rfl,hF⟩
  have hcv:(convert 87 9 (.slice (some ⟨w.heap.size,0,none⟩) (Lib.nDigits u) 24)).run Tryz.prog ((putRow (fun (b:UInt8)=>Value.int .u8 (b.toNat:Int)) (w.alloc (.cells Lib.zeros24 272)) w.heap.size 0 dk).drewN k)=.ok (.string ⟨(Lib.decDigits u).toArray⟩) ((putRow (fun (b:UInt8)=>Value.int .u8 (b.toNat:Int)) (w.alloc (.cells Lib.zeros24 272)) w.heap.size 0 dk).drewN k):=by
   have h:=run_convert_bytes_back (P:=Tryz.prog) ((putRow (fun (b:UInt8)=>Value.int .u8 (b.toNat:Int)) (w.alloc (.cells Lib.zeros24 272)) w.heap.size 0 dk).drewN k) 87 9 5 ⟨w.heap.size,0,none⟩ 24 (Lib.decDigits u) Tryz.underlying87 Tryz.underlying5 Tryz.underlying9 (fun j hj=>by
    rw [Lib.row_is_numeral hF j hj,Lib.add_plain,World.cell?_drewN]
    exact cell?_putRow (fun (b:UInt8)=>Value.int .u8 (b.toNat:Int)) _ w.heap.size 0 _ dk HH0.out (by rw [hF.size,Array.size_replicate]) j (by rw [hF.size];rw [Lib.decDigits_length] at hj;exact hj))
   rw [Lib.decDigits_length] at h
   exact h
  go_wp2
  go_ret
  obtain ⟨os,eo⟩:=fin0 w (.cells Lib.zeros24 272) dk k
  exact ⟨rfl,k,os,eo⟩
def at2 (fuel:Nat) (u base:Int):Option (List UInt8):=bif decide (0<=u)&&decide (u<=18446744073709551615)&&decide (base=10) then some (decB u.toNat) else none
def a4j (fuel:Nat):CallE:={ f:=322,A:=⟨2,[],[.int .u64,.int .i64]⟩,R:=⟨1,[],[.str]⟩,F:=fun x=>at2 fuel x.1 x.2,dflt:=[] }
theorem a2g (fuel:Nat):(a4j fuel).Ok Tryz.prog:=by
 intro x y h
 obtain ⟨n,base⟩:=x
 have h:at2 fuel n base=some y:=h
 unfold at2 at h
 obtain ⟨hb,rfl⟩:=aaw h
 simp only [Bool.and_eq_true,decide_eq_true_eq] at hb
 obtain ⟨⟨h0,h1⟩,rfl⟩:=hb
 obtain ⟨u,rfl⟩:∃ u:Nat,n=(u:Int):=⟨n.toNat,(Int.toNat_of_nonneg h0).symm⟩
 refine adw (aa2 Tryz.func322 (by kernel_rfl) (by kernel_rfl)) (fun D ow μ w vals pre=>?_)
 obtain ⟨v,b,rfl,h1,h2⟩:=a1j pre
 cases h1;cases h2
 refine (apd u (by omega) w (a5x pre.tabs)).mono ?_
 rintro e w' ⟨rfl,k,os,rfl⟩
 refine ⟨_,rfl,fun ow' μ' st'=>?_,aml w k os⟩
 rw [Int.toNat_natCast,<-aq4 (by omega)]
 exact .str
end Go.Ab
namespace Go.Ab
open Go Go.Proofs Go.Shelf Go.RowKit Go.Lib
def aa1 (c:UInt8):List UInt8->List (List UInt8)
 | []=>[[]]
 | b::r=>bif b==c then []::aa1 c r else match aa1 c r with | x::q=>(b::x)::q | []=>[[b]]
theorem aiy (c:UInt8):∀ s,aa1 c s≠[]:=by
 intro s
 cases s with
 | nil=>simp [aa1]
 | cons b r=>
  simp only [aa1]
  cases (b==c)
  ·simp only [cond_false];split<;>simp
  ·simp
theorem aw5 (s:List UInt8) (c:UInt8):indexByte s c=-1∨∃ n:Nat,indexByte s c=n:=by
 have:=indexByte_ge s c
 rcases Int.lt_or_le (indexByte s c) 0 with h | h
 ·exact Or.inl (by omega)
 ·exact Or.inr ⟨(indexByte s c).toNat,by omega⟩
theorem ase (c b:UInt8) (h:(b==c)=false):∀ (k:Nat) (r:List UInt8),splitK [c] 0 k (b::r)=match splitK [c] 0 k r with | x::q=>(b::x)::q | []=>[[b]]:=by
 intro k r
 have hb:b≠c:=by intro e;rw [e] at h;simp at h
 cases k with
 | zero=>rfl
 | succ k=>
  have e1:index (b::r) [c]=if indexByte r c==-1 then -1 else indexByte r c+1:=by
   rw [index_one]
   simp only [indexByte,h,Bool.false_eq_true,if_false]
  have e2:index r [c]=indexByte r c:=index_one r c
  unfold splitK
  rw [e1,e2]
  rcases aw5 r c with hi | ⟨n,hi⟩
  ·simp [hi]
  ·have h1:((n:Int)==-1)=false:=by rw [beq_eq_false_iff_ne];omega
   have h2:((n:Int)+1==-1)=false:=by rw [beq_eq_false_iff_ne];omega
   simp only [hi,h1,h2,Bool.false_eq_true,if_false]
   have t1:((n:Int)+1).toNat=n+1:=by omega
   have t2:((n:Int)).toNat=n:=by omega
   rw [t1,t2]
   simp [Nat.add_right_comm]
theorem ayn (c:UInt8):∀ (s:List UInt8) (k:Nat),s.count c<=k->splitK [c] 0 k s=aa1 c s:=by
 intro s
 induction s with
 | nil=>
  intro k _
  cases k with
  | zero=>rfl
  | succ k=>simp [splitK,aa1,index_one,indexByte]
 | cons b r ih=>
  intro k hk
  cases h:(b==c) with
  | false=>
   have hb:b≠c:=by intro e;rw [e] at h;simp at h
   rw [ase c b h,ih k (by rw [List.count_cons_of_ne (by simpa using hb)] at hk;exact hk)]
   simp [aa1,h]
  | true=>
   have hb:b=c:=by simpa using h
   subst hb
   rw [List.count_cons_self] at hk
   cases k with
   | zero=>omega
   | succ k=>
    unfold splitK
    have e1:index (b::r) [b]=0:=by rw [index_one];simp [indexByte]
    rw [e1]
    have h0:((0:Int)==-1)=false:=by decide
    simp only [h0,Bool.false_eq_true,if_false]
    simp only [aa1,h,cond_true]
    simp
    exact ih k (by omega)
theorem avk (s:List UInt8) (c:UInt8):(splitB ⟨#[c]⟩ 0 (countB ⟨s.toArray⟩ ⟨#[c]⟩) ⟨s.toArray⟩).map (·.data.toList)=aa1 c s:=by
 rw [splitB_data]
 show splitK [c] 0 _ s=_
 refine ayn c s _ ?_
 show _<=Lib.count s [c]
 rw [Lib.count_one]
 exact Nat.le_refl _
set_option maxHeartbeats 1000000 in
theorem ayo (s:ByteArray) (c:UInt8) (w:World) (hs:s.size<4294967281):
 Calls Tryz.prog 299 #[.string s,.string ⟨#[c]⟩] w fun e w'=>e=.returned (.slice (some ⟨w.heap.size,0,none⟩) (Lib.countB s ⟨#[c]⟩+1) (Lib.countB s ⟨#[c]⟩+1))/\
  w'=w.alloc (.cells ((Lib.splitB ⟨#[c]⟩ 0 (Lib.countB s ⟨#[c]⟩) s).map Value.string).toArray 9):=by
 have h1:1<=(⟨#[c]⟩:ByteArray).size:=Nat.le_refl 1
 have hle:=Lib.countB_le ⟨#[c]⟩ h1 s.size s (Nat.le_refl _)
 have hlen:=Lib.splitB_all ⟨#[c]⟩ h1 0 _ s rfl
 have cc:=Any.strings_genSplit_core (P:=Tryz.prog) Tryz.lays221 (by kernel_rfl) s ⟨#[c]⟩ 0 (-1) (Lib.countB s ⟨#[c]⟩+1) w hs h1 (Nat.zero_le _)
  (fun x cs _=>(Any.strings_Index_one Tryz.lays143 x c _).mono fun e w' ⟨he,hw⟩=>⟨by rw [he];exact congrArg (fun i:Int=>Ending.returned (Value.int .i64 i)) (index_one x.data.toList c).symm,hw⟩)
  ((Any.strings_Count_one Tryz.lays138 s c w).mono fun e w' ⟨he,hw⟩=>⟨by
    rw [he]
    show _=Ending.returned (Value.int .i64 ((Lib.count s.data.toList [c]:Nat):Int))
    rw [Lib.count_one]
    rfl,hw⟩) (by decide) (by decide) (by rw [if_pos (by decide)];omega)
 rw [Nat.add_sub_cancel,hlen] at cc
 have e2:Lib.cellsOf (Lib.splitB ⟨#[c]⟩ 0 (Lib.countB s ⟨#[c]⟩) s) (Lib.countB s ⟨#[c]⟩+1)=((Lib.splitB ⟨#[c]⟩ 0 (Lib.countB s ⟨#[c]⟩) s).map Value.string).toArray:=by rw [<-hlen];exact Lib.cellsOf_full _
 rw [e2] at cc
 have e221:∀ args w,(callFunc 314 args).run Tryz.prog w=.ok (.enter 314 args) w:=aa2 Tryz.func314 (by kernel_rfl) (by kernel_rfl)
 go_enter Tryz.func299,Tryz.ntmps299
 go_wp2_with (go_at_fn 314;refine cc.mono ?_;rintro e w' ⟨rfl,hw⟩;rw [hw])
 go_ret
 exact ⟨rfl,rfl⟩
theorem arb {P:Program}{f:FuncId}{args:List SV}{E:TypeId}{xs:List PV} (he:aka P f)
 (h:∀ (D:Dom) (ow:Own) (μ:Nat->Nat) (w:World) (vals:Array Value),Pre P D ow μ [] w args vals->∃ (cs:List Value) (cap:Nat),xs.length<=cap/\cs.length=xs.length*P.cellsOf E/\(∀ (D':Dom) (w':World) (i:Nat) (x:PV),xs[i]?=some x->Rep P D' w' E x ((cs.drop (i*P.cellsOf E)).take (P.cellsOf E)))/\
  Calls P f vals w fun e w'=>e=.returned (.slice (some ⟨w.heap.size,0,none⟩) xs.length cap)/\w'=w.alloc (.cells cs.toArray E)):Meets P f args [] [.slice E xs] []:=by
 refine ⟨he,fun D ow μ w vals pre=>?_⟩
 obtain ⟨cs,cap,h1,h2,h3,h4⟩:=h D ow μ w vals pre
 refine h4.mono ?_
 rintro e w' ⟨rfl,rfl⟩
 have keep:Keeps D w (w.alloc (.cells cs.toArray E)):=Keeps.of_heap fun b o d=>aaz w _ b (pre.dlt b o d)
 refine ⟨_,fun b o=>D b o∨(b=w.heap.size/\o<cs.length),rfl,fun _ _ d=>Or.inl d,fun b o d=>d.imp id fun d=>Or.inl (by omega),⟨fun _=>none,μ,⟨fun k b h=>(by simp at h),fun b k h=>(by cases h),fun b o d=>?_,fun b k x h=>(by cases h)⟩,.slice (.mk h1 h2 (fun i x hx=>h3 _ _ i x hx) (fun j u hj=>?_)),fun b k h=>(by cases h),fun k b h=>(by simp at h),fun k E g xs ys h=>(by simp at h)⟩,rfl,rfl,rfl,by simp,fun b hb' _=>aaz w _ b hb',keep⟩
 ·rcases d with d | ⟨rfl,_⟩
  ·have:=pre.dlt b o d;simp;omega
  ·simp
 ·have hlt:=(List.getElem?_eq_some_iff.1 hj).1
  refine ⟨Or.inr ⟨rfl,by omega⟩,?_⟩
  rw [Nat.zero_add,World.cell?_alloc_new]
  simpa using hj
def amh (fuel:Nat) (s sep:List UInt8):Option (List PV):=
 match sep with
 | [c]=>bif Nat.blt s.length 4294967281 then some ((aa1 c s).map PV.str) else none
 | _=>none
def av0 (fuel:Nat):CallE:={ f:=299,A:=⟨2,[],[.str,.str]⟩,R:=⟨1,[],[.slice 9]⟩,F:=fun x=>amh fuel x.1 x.2,dflt:=[] }
theorem azd (fuel:Nat):(av0 fuel).Ok Tryz.prog:=by
 intro x y h
 obtain ⟨s,sep⟩:=x
 have h:amh fuel s sep=some y:=h
 unfold amh at h
 obtain ⟨c,rfl⟩:∃ c,sep=[c]:=by
  match sep,h with
  | [c],_=>exact ⟨c,rfl⟩
 obtain ⟨hb,rfl⟩:=aaw h
 have hb:s.length<4294967281:=Nat.le_of_ble_eq_true hb
 have hc1:Tryz.prog.cellsOf 9=1:=by kernel_rfl
 refine arb (E:=9) (xs:=(aa1 c s).map PV.str) (aa2 Tryz.func299 (by kernel_rfl) (by kernel_rfl)) (fun D ow μ w vals pre=>?_)
 obtain ⟨v,u,rfl,a1,a2⟩:=a1j pre
 cases a1;cases a2
 have hone:=avk s c
 have hlen:=Lib.splitB_all ⟨#[c]⟩ (Nat.le_refl 1) 0 _ ⟨s.toArray⟩ rfl
 have hl2:(aa1 c s).length=Lib.countB ⟨s.toArray⟩ ⟨#[c]⟩+1:=by rw [<-hone,List.length_map];exact hlen
 refine ⟨(Lib.splitB ⟨#[c]⟩ 0 (Lib.countB ⟨s.toArray⟩ ⟨#[c]⟩) ⟨s.toArray⟩).map Value.string,Lib.countB ⟨s.toArray⟩ ⟨#[c]⟩+1,by rw [List.length_map,hl2];exact Nat.le_refl _,by rw [List.length_map,List.length_map,hlen,hl2,hc1,Nat.mul_one],fun D' w' i x hx=>?_,?_⟩
 ·rw [<-hone] at hx
  simp only [List.getElem?_map,Option.map_eq_some_iff] at hx
  obtain ⟨p,⟨q,hq,rfl⟩,rfl⟩:=hx
  have hi:=(List.getElem?_eq_some_iff.1 hq).1
  rw [hc1,Nat.mul_one]
  have:((List.map Value.string (splitB ⟨#[c]⟩ 0 (countB ⟨s.toArray⟩ ⟨#[c]⟩) ⟨s.toArray⟩)).drop i).take 1=[.string ⟨q.data.toList.toArray⟩]:=by
   rw [List.drop_eq_getElem_cons (by simpa using hi)]
   have h2:=(List.getElem?_eq_some_iff.1 hq).2
   simp [h2]
  rw [this]
  exact .str Tryz.underlying9
 ·have:=ayo ⟨s.toArray⟩ c w (by simpa [ByteArray.size] using hb)
  refine this.mono ?_
  rintro e w' ⟨rfl,rfl⟩
  exact ⟨by rw [List.length_map,hl2],rfl⟩
end Go.Ab
