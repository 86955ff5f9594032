/- strings.Split by one byte; the builder's entries at a second type. -/
import Derived.Test.YtcpkdafleaddlaaGreatDoorAbFmt0P
import Derived.Lib.Split
import Derived.Lib.SplitLaws
import Derived.Shelf.Strings.Split
set_option linter.unusedVariables false
set_option linter.unusedSimpArgs false
set_option linter.unnecessarySimpa false
namespace Go.Ab
open Go Go.Proofs Go.Shelf Go.RowKit Go.Lib
def ads (c:UInt8):List UInt8->List (List UInt8)
 | []=>[[]]
 | b::r=>bif b==c then []::ads c r else match ads c r with | x::q=>(b::x)::q | []=>[[b]]
theorem a2s (s:List UInt8) (c:UInt8):indexByte s c=-1∨∃ n:Nat,indexByte s c=n:=by
 have:=indexByte_ge s c
 rcases Int.lt_or_le (indexByte s c) 0 with h | h
 ·exact Or.inl (by omega)
 ·exact Or.inr ⟨(indexByte s c).toNat,by omega⟩
theorem av1 (c b:UInt8) (h:(b==c)=false):∀ (k:Nat) (r:List UInt8),splitK [c] 0 k (b::r)=match splitK [c] 0 k r with | x::q=>(b::x)::q | []=>[[b]]:=by
 intro k r
 have hb:b≠c:=by intro e;rw [e] at h;simp at h
 cases k with
 | zero=>rfl
 | succ k=>
  have e1:index (b::r) [c]=if indexByte r c==-1 then -1 else indexByte r c+1:=by
   rw [index_one]
   simp only [indexByte,h,Bool.false_eq_true,if_false]
  have e2:index r [c]=indexByte r c:=index_one r c
  unfold splitK
  rw [e1,e2]
  rcases a2s r c with hi | ⟨n,hi⟩
  ·simp [hi]
  ·have h1:((n:Int)==-1)=false:=by rw [beq_eq_false_iff_ne];omega
   have h2:((n:Int)+1==-1)=false:=by rw [beq_eq_false_iff_ne];omega
   simp only [hi,h1,h2,Bool.false_eq_true,if_false]
   have t1:((n:Int)+1).toNat=n+1:=by omega
   have t2:((n:Int)).toNat=n:=by omega
   rw [t1,t2]
   simp [Nat.add_right_comm]
theorem a03 (c:UInt8):∀ (s:List UInt8) (k:Nat),s.count c<=k->splitK [c] 0 k s=ads c s:=by
 intro s
 induction s with
 | nil=>
  intro k _
  cases k with
  | zero=>rfl
  | succ k=>simp [splitK,ads,index_one,indexByte]
 | cons b r ih=>
  intro k hk
  cases h:(b==c) with
  | false=>
   have hb:b≠c:=by intro e;rw [e] at h;simp at h
   rw [av1 c b h,ih k (by rw [List.count_cons_of_ne (by simpa using hb)] at hk;exact hk)]
   simp [ads,h]
  | true=>
   have hb:b=c:=by simpa using h
   subst hb
   rw [List.count_cons_self] at hk
   cases k with
   | zero=>omega
   | succ k=>
    unfold splitK
    have e1:index (b::r) [b]=0:=by rw [index_one];simp [indexByte]
    rw [e1]
    have h0:((0:Int)==-1)=false:=by decide
    simp only [h0,Bool.false_eq_true,if_false]
    simp only [ads,h,cond_true]
    simp
    exact ih k (by omega)
theorem ax4 (s:List UInt8) (c:UInt8):(splitB ⟨#[c]⟩ 0 (countB ⟨s.toArray⟩ ⟨#[c]⟩) ⟨s.toArray⟩).map (·.data.toList)=ads c s:=by
 rw [splitB_data]
 show splitK [c] 0 _ s=_
 refine a03 c s _ ?_
 show _<=Lib.count s [c]
 rw [Lib.count_one]
 exact Nat.le_refl _
set_option maxHeartbeats 1000000 in
theorem a3o (s:ByteArray) (c:UInt8) (w:World) (hs:s.size<4294967281):
 Calls Tryz.prog 199 #[.string s,.string ⟨#[c]⟩] w fun e w'=>e=.returned (.slice (some ⟨w.heap.size,0,none⟩) (Lib.countB s ⟨#[c]⟩+1) (Lib.countB s ⟨#[c]⟩+1))/\
  w'=w.alloc (.cells ((Lib.splitB ⟨#[c]⟩ 0 (Lib.countB s ⟨#[c]⟩) s).map Value.string).toArray 9):=by
 have h1:1<=(⟨#[c]⟩:ByteArray).size:=Nat.le_refl 1
 have hle:=Lib.countB_le ⟨#[c]⟩ h1 s.size s (Nat.le_refl _)
 have hlen:=Lib.splitB_all ⟨#[c]⟩ h1 0 _ s rfl
 have cc:=Any.strings_genSplit_core (P:=Tryz.prog) Tryz.lays221 (by kernel_rfl) s ⟨#[c]⟩ 0 (-1) (Lib.countB s ⟨#[c]⟩+1) w hs h1 (Nat.zero_le _)
  (fun x cs _=>(Any.strings_Index_one Tryz.lays143 x c _).mono fun e w' ⟨he,hw⟩=>⟨by rw [he];exact congrArg (fun i:Int=>Ending.returned (Value.int .i64 i)) (index_one x.data.toList c).symm,hw⟩)
  ((Any.strings_Count_one Tryz.lays138 s c w).mono fun e w' ⟨he,hw⟩=>⟨by
    rw [he]
    show _=Ending.returned (Value.int .i64 ((Lib.count s.data.toList [c]:Nat):Int))
    rw [Lib.count_one]
    rfl,hw⟩) (by decide) (by decide) (by rw [if_pos (by decide)];omega)
 rw [Nat.add_sub_cancel,hlen] at cc
 have e2:Lib.cellsOf (Lib.splitB ⟨#[c]⟩ 0 (Lib.countB s ⟨#[c]⟩) s) (Lib.countB s ⟨#[c]⟩+1)=((Lib.splitB ⟨#[c]⟩ 0 (Lib.countB s ⟨#[c]⟩) s).map Value.string).toArray:=by rw [<-hlen];exact Lib.cellsOf_full _
 rw [e2] at cc
 have e221:∀ args w,(callFunc 284 args).run Tryz.prog w=.ok (.enter 284 args) w:=aay Tryz.func284 (by kernel_rfl) (by kernel_rfl)
 go_enter Tryz.func199,Tryz.ntmps199
 go_wp2_with (go_at_fn 284;refine cc.mono ?_;rintro e w' ⟨rfl,hw⟩;rw [hw])
 go_ret
 exact ⟨rfl,rfl⟩
theorem auq {P:Program}{f:FuncId}{args:List SV}{E:TypeId}{xs:List PV} (he:ajw P f)
 (h:∀ (D:Dom) (ow:Own) (μ:Nat->Nat) (w:World) (vals:Array Value),Pre P D ow μ [] w args vals->∃ (cs:List Value) (cap:Nat),xs.length<=cap/\cs.length=xs.length*P.cellsOf E/\(∀ (D':Dom) (w':World) (i:Nat) (x:PV),xs[i]?=some x->Rep P D' w' E x ((cs.drop (i*P.cellsOf E)).take (P.cellsOf E)))/\
  Calls P f vals w fun e w'=>e=.returned (.slice (some ⟨w.heap.size,0,none⟩) xs.length cap)/\w'=w.alloc (.cells cs.toArray E)):Meets P f args [] [.slice E xs] []:=by
 refine ⟨he,fun D ow μ w vals pre=>?_⟩
 obtain ⟨cs,cap,h1,h2,h3,h4⟩:=h D ow μ w vals pre
 refine h4.mono ?_
 rintro e w' ⟨rfl,rfl⟩
 have keep:Keeps D w (w.alloc (.cells cs.toArray E)):=Keeps.of_heap fun b o d=>aat w _ b (pre.dlt b o d)
 refine ⟨_,fun b o=>D b o∨(b=w.heap.size/\o<cs.length),rfl,fun _ _ d=>Or.inl d,fun b o d=>d.imp id fun d=>Or.inl (by omega),⟨fun _=>none,μ,⟨fun k b h=>(by simp at h),fun b k h=>(by cases h),fun b o d=>?_,fun b k x h=>(by cases h)⟩,.slice (.mk h1 h2 (fun i x hx=>h3 _ _ i x hx) (fun j u hj=>?_)),fun b k h=>(by cases h),fun k b h=>(by simp at h),fun k E g xs ys h=>(by simp at h)⟩,rfl,rfl,rfl,by simp,fun b hb' _=>aat w _ b hb',keep⟩
 ·rcases d with d | ⟨rfl,_⟩
  ·have:=pre.dlt b o d;simp;omega
  ·simp
 ·have hlt:=(List.getElem?_eq_some_iff.1 hj).1
  refine ⟨Or.inr ⟨rfl,by omega⟩,?_⟩
  rw [Nat.zero_add,World.cell?_alloc_new]
  simpa using hj
def ama (fuel:Nat) (s sep:List UInt8):Option (List PV):=
 match sep with
 | [c]=>bif Nat.blt s.length 4294967281 then some ((ads c s).map PV.str) else none
 | _=>none
def auk (fuel:Nat):CallE:={ f:=199,A:=⟨2,[],[.str,.str]⟩,R:=⟨1,[],[.slice 9]⟩,F:=fun x=>ama fuel x.1 x.2,dflt:=[] }
theorem axa (fuel:Nat):(auk fuel).Ok Tryz.prog:=by
 intro x y h
 obtain ⟨s,sep⟩:=x
 have h:ama fuel s sep=some y:=h
 unfold ama at h
 obtain ⟨c,rfl⟩:∃ c,sep=[c]:=by
  match sep,h with
  | [c],_=>exact ⟨c,rfl⟩
 obtain ⟨hb,rfl⟩:=abc h
 have hb:s.length<4294967281:=Nat.le_of_ble_eq_true hb
 have hc1:Tryz.prog.cellsOf 9=1:=by kernel_rfl
 refine auq (E:=9) (xs:=(ads c s).map PV.str) (aay Tryz.func199 (by kernel_rfl) (by kernel_rfl)) (fun D ow μ w vals pre=>?_)
 obtain ⟨v,u,rfl,a1,a2⟩:=a9f pre
 cases a1;cases a2
 have hone:=ax4 s c
 have hlen:=Lib.splitB_all ⟨#[c]⟩ (Nat.le_refl 1) 0 _ ⟨s.toArray⟩ rfl
 have hl2:(ads c s).length=Lib.countB ⟨s.toArray⟩ ⟨#[c]⟩+1:=by rw [<-hone,List.length_map];exact hlen
 refine ⟨(Lib.splitB ⟨#[c]⟩ 0 (Lib.countB ⟨s.toArray⟩ ⟨#[c]⟩) ⟨s.toArray⟩).map Value.string,Lib.countB ⟨s.toArray⟩ ⟨#[c]⟩+1,by rw [List.length_map,hl2];exact Nat.le_refl _,by rw [List.length_map,List.length_map,hlen,hl2,hc1,Nat.mul_one],fun D' w' i x hx=>?_,?_⟩
 ·rw [<-hone] at hx
  simp only [List.getElem?_map,Option.map_eq_some_iff] at hx
  obtain ⟨p,⟨q,hq,rfl⟩,rfl⟩:=hx
  have hi:=(List.getElem?_eq_some_iff.1 hq).1
  rw [hc1,Nat.mul_one]
  have:((List.map Value.string (splitB ⟨#[c]⟩ 0 (countB ⟨s.toArray⟩ ⟨#[c]⟩) ⟨s.toArray⟩)).drop i).take 1=[.string ⟨q.data.toList.toArray⟩]:=by
   rw [List.drop_eq_getElem_cons (by simpa using hi)]
   have h2:=(List.getElem?_eq_some_iff.1 hq).2
   simp [h2]
  rw [this]
  exact .str Tryz.underlying9
 ·have:=a3o ⟨s.toArray⟩ c w (by simpa [ByteArray.size] using hb)
  refine this.mono ?_
  rintro e w' ⟨rfl,rfl⟩
  exact ⟨by rw [List.length_map,hl2],rfl⟩
end Go.Ab
