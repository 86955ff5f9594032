/- strings.Split by one byte; the builder's entries at a second type. -/
import Derived.Test.YtcpkdafleaddlaaGreatDoorAbFmt0P
import Derived.Lib.Split
import Derived.Lib.SplitLaws
set_option linter.unusedVariables false
set_option linter.unusedSimpArgs false
set_option linter.unnecessarySimpa false
namespace Go.Ab
open Go Go.Proofs Go.Shelf Go.RowKit Go.Lib
def abb (c:UInt8):List UInt8->List (List UInt8)
 | []=>[[]]
 | b::r=>bif b==c then []::abb c r else match abb c r with | x::q=>(b::x)::q | []=>[[b]]
theorem ak4 (c:UInt8):∀ s,abb c s≠[]:=by
 intro s;cases s with
 | nil=>simp [abb]
 | cons b r=>
  simp only [abb];cases (b==c)
  ·simp only [Ae];split<;>simp
  ·simp
theorem a4k (s:List UInt8) (c:UInt8):indexByte s c=-1\/∃ n:Nat,indexByte s c=n:=by
 have:=indexByte_ge s c;rcases Int.lt_or_le (indexByte s c) 0 with h | h
 ·exact Or.inl (by omega)
 ·exact Or.inr ⟨(indexByte s c).toNat,by omega⟩
theorem axz (c b:UInt8) (h:(b==c)=false):∀ (k:Nat) (r:List UInt8),splitK [c] 0 k (b::r)=match splitK [c] 0 k r with | x::q=>(b::x)::q | []=>[[b]]:=by
 intro k r;have U:b≠c:=by intro e;rw [e] at h;simp at h
 cases k with
 | zero=>rfl
 | succ k=>
  have m:index (b::r) [c]=if indexByte r c==-1 then -1 else indexByte r c+1:=by rw [index_one];simp only [indexByte,h,A2,A7]
  have o:index r [c]=indexByte r c:=index_one r c;unfold splitK;rw [m,o];rcases a4k r c with d | ⟨n,d⟩
  ·simp [d]
  ·have z:((n:Int)==-1)=false:=by rw [At];omega
   have H:((n:Int)+1==-1)=false:=by rw [At];omega
   simp only [d,z,H,A2,A7];have M:((n:Int)+1).toNat=n+1:=by omega
   have O:((n:Int)).toNat=n:=by omega
   rw [M,O];simp [Nat.add_right_comm]
theorem a69 (c:UInt8):∀ (s:List UInt8) (k:Nat),s.count c<=k->splitK [c] 0 k s=abb c s:=by
 intro s;induction s with
 | nil=>
  intro k _;cases k with
  | zero=>rfl
  | succ k=>simp [splitK,abb,index_one,indexByte]
 | cons b r o=>
  intro k m;cases h:(b==c) with
  | false=>
   have d:b≠c:=by intro e;rw [e] at h;simp at h
   rw [axz c b h,o k (by rw [List.count_cons_of_ne (by simpa using d)] at m;exact m)];simp [abb,h]
  | true=>
   have d:b=c:=by simpa using h
   subst d;rw [List.count_cons_self] at m;cases k with
   | zero=>omega
   | succ k=>
    unfold splitK;have z:index (b::r) [b]=0:=by rw [index_one];simp [indexByte]
    rw [z];have H:((0:Int)==-1)=false:=by decide
    simp only [H,A2,A7];simp only [abb,h,Ad];simp;exact o k (by omega)
theorem a2a (s:List UInt8) (c:UInt8):(splitB ⟨#[c]⟩ 0 (countB ⟨s.toArray⟩ ⟨#[c]⟩) ⟨s.toArray⟩).map (·.data.toList)=abb c s:=by rw [splitB_data];show splitK [c] 0 _ s=_;refine a69 c s _ ?_;show _<=Lib.count s [c];rw [Lib.count_one];exact Nat.le_refl _
set_option maxHeartbeats 1000000 in
theorem a7a (s:ByteArray) (c:UInt8) (w:World) (V:s.size<4294967281):
 Calls Tryz.prog 199 #[.string s,.string ⟨#[c]⟩] w λe w'=>e=.returned (.slice (some ⟨w.heap.size,0,none⟩) (Lib.countB s ⟨#[c]⟩+1) (Lib.countB s ⟨#[c]⟩+1))/\
  w'=w.alloc (.cells ((Lib.splitB ⟨#[c]⟩ 0 (Lib.countB s ⟨#[c]⟩) s).map Value.string).toArray 9):=by
 have z:1<=(⟨#[c]⟩:ByteArray).size:=Nat.le_refl 1
 have U:=Lib.countB_le ⟨#[c]⟩ z s.size s (Nat.le_refl _)
 have d:=Lib.splitB_all ⟨#[c]⟩ z 0 _ s rfl
 have o:=Any.strings_genSplit_core (P:=Tryz.prog) Tryz.lays221 (by kernel_rfl) s ⟨#[c]⟩ 0 (-1) (Lib.countB s ⟨#[c]⟩+1) w V z (Nat.zero_le _)
  (λx cs _=>(Any.strings_Index_one Tryz.lays143 x c _).mono λe w' ⟨H,m⟩=>⟨by rw [H];exact congrArg (λi:Int=>Ending.returned (Value.int .i64 i)) (index_one x.data.toList c).symm,m⟩)
  ((
   Any.strings_Count_one Tryz.lays138 s c w).mono λe w' ⟨H,m⟩=>⟨by
   rw [H]
   show _=Ending.returned (Value.int .i64 ((Lib.count s.data.toList [c]:Nat):Int))
   rw [Lib.count_one]
   rfl,m⟩) (by decide) (by decide) (by rw [if_pos (by decide)];omega)
 rw [Nat.add_sub_cancel,d] at o
 have O:Lib.cellsOf (Lib.splitB ⟨#[c]⟩ 0 (Lib.countB s ⟨#[c]⟩) s) (Lib.countB s ⟨#[c]⟩+1)=((Lib.splitB ⟨#[c]⟩ 0 (Lib.countB s ⟨#[c]⟩) s).map Value.string).toArray:=by rw [<-d];exact Lib.cellsOf_full _
 rw [O] at o
 have M:∀ args w,(callFunc 284 args).run Tryz.prog w=.ok (.enter 284 args) w:=aa5 Tryz.func284 (by kernel_rfl) (by kernel_rfl)
 go_enter Tryz.func199,Tryz.ntmps199
 go_wp2_with (go_at_fn 284;refine o.mono ?_;rintro e w' ⟨rfl,m⟩;rw [m])
 go_ret
 exact ⟨rfl,rfl⟩
theorem awq {P:Program}{f:FuncId}{args:List SV}{E:TypeId}{xs:List PV} (Y:aj1 P f)
 (h:∀ (D:Dom) (ow:Own) (μ:Nat->Nat) (w:World) (m:Array Value),Pre P D ow μ [] w args m->∃ (cs:List Value) (cap:Nat),xs.length<=cap/\cs.length=xs.length*P.cellsOf E/\(∀ (D':Dom) (w':World) (i:Nat) (x:PV),xs[i]?=some x->Rep P D' w' E x ((cs.drop (i*P.cellsOf E)).take (P.cellsOf E)))/\
  Calls P f m w λe w'=>e=.returned (.slice (some ⟨w.heap.size,0,none⟩) xs.length cap)/\w'=w.alloc (.cells cs.toArray E)):Meets P f args [] [.slice E xs] []:=by
 refine ⟨Y,λD ow μ w m z=>?_⟩
 obtain ⟨cs,cap,U,V,W,X⟩:=h D ow μ w m z
 refine X.mono ?_
 rintro e w' ⟨rfl,rfl⟩
 have H:Keeps D w (w.alloc (.cells cs.toArray E)):=Keeps.of_heap λb o d=>aa0 w _ b (z.dlt b o d)
 refine ⟨_,λb o=>D b o\/(b=w.heap.size/\o<cs.length),rfl,λ_ _ d=>Or.inl d,λb o d=>d.imp id λd=>Or.inl (by omega),⟨λ_=>none,μ,⟨λk b h=>(by simp at h),λb k h=>(by cases h),λb o d=>?_,λb k x h=>(by cases h)⟩,.slice (.mk U V (λi x hx=>W _ _ i x hx) (λj u O=>?_)),λb k h=>(by cases h),λk b h=>(by simp at h),λk E g xs ys h=>(by simp at h)⟩,rfl,rfl,rfl,by simp,λb M _=>aa0 w _ b M,H⟩
 ·rcases d with d | ⟨rfl,_⟩
  ·have:=z.dlt b o d;simp;omega
  ·simp
 ·have Z:=(A4.1 O).1;refine ⟨Or.inr ⟨rfl,by omega⟩,?_⟩;rw [Nat.zero_add,World.cell?_alloc_new];simpa using O
def ang (m:Nat) (s d:List UInt8):Option (List PV):=
 match d with
 | [c]=>bif Nat.blt s.length 4294967281 then some ((abb c s).map PV.str) else none
 | _=>none
def avy (d:Nat):CallE:={ f:=199,A:=⟨2,[],[.str,.str]⟩,R:=⟨1,[],[.slice 9]⟩,F:=λx=>ang d x.1 x.2,dflt:=[] }
theorem ayf (d:Nat):(avy d).Ok Tryz.prog:=by
 intro x y h;obtain ⟨s,H⟩:=x;have h:ang d s H=some y:=h;unfold ang at h;obtain ⟨c,rfl⟩:∃ c,H=[c]:=by
  match H,h with
  | [c],_=>exact ⟨c,rfl⟩
 obtain ⟨O,rfl⟩:=abm h;have O:s.length<4294967281:=As O;have M:Tryz.prog.cellsOf 9=1:=by kernel_rfl
 refine awq (E:=9) (xs:=(abb c s).map PV.str) (aa5 Tryz.func199 (by kernel_rfl) (by kernel_rfl)) (λD ow μ w X V=>?_);obtain ⟨v,u,rfl,Y,Z⟩:=bdj V;cases Y;cases Z;have o:=a2a s c;have m:=Lib.splitB_all ⟨#[c]⟩ (Nat.le_refl 1) 0 _ ⟨s.toArray⟩ rfl;have z:(abb c s).length=Lib.countB ⟨s.toArray⟩ ⟨#[c]⟩+1:=by rw [<-o,List.length_map];exact m
 refine ⟨(Lib.splitB ⟨#[c]⟩ 0 (Lib.countB ⟨s.toArray⟩ ⟨#[c]⟩) ⟨s.toArray⟩).map Value.string,Lib.countB ⟨s.toArray⟩ ⟨#[c]⟩+1,by rw [List.length_map,z];exact Nat.le_refl _,by rw [List.length_map,List.length_map,m,z,M,Nat.mul_one],λD' w' i x U=>?_,?_⟩
 ·rw [<-o] at U;simp only [List.getElem?_map,Option.map_eq_some_iff] at U;obtain ⟨p,⟨q,W,rfl⟩,rfl⟩:=U;have hi:=(A4.1 W).1;rw [M,Nat.mul_one];have:((List.map Value.string (splitB ⟨#[c]⟩ 0 (countB ⟨s.toArray⟩ ⟨#[c]⟩) ⟨s.toArray⟩)).drop i).take 1=[.string ⟨q.data.toList.toArray⟩]:=by
   rw [List.drop_eq_getElem_cons (by simpa using hi)];have h2:=(A4.1 W).2;simp [h2]
  rw [this];exact .str Tryz.underlying9
 ·have:=a7a ⟨s.toArray⟩ c w (by simpa [ByteArray.size] using O);refine this.mono ?_;rintro e w' ⟨rfl,rfl⟩;exact ⟨by rw [List.length_map,z],rfl⟩
end Go.Ab
