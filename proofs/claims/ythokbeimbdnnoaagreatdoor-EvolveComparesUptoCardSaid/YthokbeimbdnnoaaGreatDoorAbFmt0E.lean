/- strconv.FormatUint at base 10: the decimal numeral. -/
import Derived.Test.YthokbeimbdnnoaaGreatDoorAbEvoE
import Derived.Lib.ItoaMem
import Derived.BigCall
import Derived.BigGuard
import Derived.Lib.Split
import Derived.Lib.SplitLaws
set_option linter.unusedVariables false
set_option linter.unusedSimpArgs false
set_option linter.unnecessarySimpa false
namespace Go.Ab
open Go Go.Proofs Go.Shelf Go.RowKit Go.Sort Go.Lib
theorem asr (w:World) (T:TypeId) (h:Nat) (H:h<=24):Holds (λ(b:UInt8)=>Value.int .u8 (b.toNat:Int)) (w.alloc (.cells zeros24 T)) w.heap.size 0 (Array.replicate h (0:UInt8)):=λj o=>by
 have z:j<h:=by simpa using o
 refine ⟨?_,World.frozen?_alloc_new _ _ _ _⟩;rw [World.cell?_alloc_new,zeros24_at _ (by omega),getElem!_pos _ j o];simp
theorem fin0 (w:World) (o:Obj) (z:Array UInt8) (k:Nat):∃ H,(putRow (λ(b:UInt8)=>Value.int .u8 (b.toNat:Int)) (w.alloc o) w.heap.size 0 z).drewN k=grow (w.drewN k) H:=by rw [alloc_eq_grow];obtain ⟨h,_,e⟩:=putRow_grow_new (λ(b:UInt8)=>Value.int .u8 (b.toNat:Int)) w #[o] w.heap.size 0 z (Nat.le_refl _);exact ⟨h,by rw [e];rfl⟩
set_option maxHeartbeats 6400000 in
set_option maxRecDepth 100000 in
theorem aqm (u:Nat) (o:u<18446744073709551616) (w:World) (M:Lib.TabIs Tryz.prog w "internal/strconv.uint64pow10" .u64 Lib.pow10Tab):
 Calls Tryz.prog 322 #[.int .u64 u,.int .i64 10] w λe w'=>e=.returned (.string ⟨(Lib.decDigits u).toArray⟩)/\∃ k os,w'=grow (w.drewN k) os:=by
 have ad:∀ args w,(callFunc 223 args).run Tryz.prog w=.ok (.enter 223 args) w:=aa7 Tryz.func223 (by kernel_rfl) (by kernel_rfl)
 have ae:∀ args w,(callFunc 224 args).run Tryz.prog w=.ok (.enter 224 args) w:=aa7 Tryz.func224 (by kernel_rfl) (by kernel_rfl)
 have af:∀ args w,(callFunc 225 args).run Tryz.prog w=.ok (.enter 225 args) w:=aa7 Tryz.func225 (by kernel_rfl) (by kernel_rfl)
 by_cases hi:u<100
 ·go_enter Tryz.func322,Tryz.ntmps322;go_wp2_with (go_at_fn 223;refine (Tryz.internal_strconv_small u hi _).mono ?_;rintro e w' ⟨rfl,rfl⟩);go_ret;exact ⟨rfl,0,#[],by simp [World.drewN_zero]⟩
 ·have O:1<=u:=by omega
  have aa:Lib.nDigits u<=20:=by have:=Lib.numDigits_eq u O o;split at this<;>omega
  have ag:Lib.nDigits u<=23:=by omega
  have J:Tryz.prog.arrayLen 272=24:=by simp [Program.arrayLen,Tryz.underlying272]
  have ab:∀ W,(Instr.sliceAt 272 (.pointer (some ⟨w.heap.size,0,none⟩)) none (some (.int .i64 (Lib.nDigits u:Int))) none).run Tryz.prog W=.ok (.slice (some ⟨w.heap.size,0,none⟩) (Lib.nDigits u) 24) W:=λW=>by rw [run_sliceAt_array_h W 272 ⟨w.heap.size,0,none⟩ (by simp [Program.arrayLen,Program.elem,Tryz.underlying272]) .i64 (Lib.nDigits u:Int) (by omega) (by rw [J];omega)];go_simp
  have H:Holds (λ(b:UInt8)=>Value.int .u8 (b.toNat:Int)) (w.alloc (.cells Lib.zeros24 272)) w.heap.size 0 (Array.replicate (Lib.nDigits u) 0):=asr w 272 _ (by omega);have z:=Tryz.internal_strconv_formatBase10 w.heap.size 0 24 u (Array.replicate (Lib.nDigits u) 0) (w.alloc (.cells Lib.zeros24 272)) H (by rw [Array.size_replicate];exact Lib.lt_pow_nDigits u) o (by rw [Array.size_replicate];omega);rw [Array.size_replicate] at z;have Z:=Lib.hid H;clear H J;go_enter Tryz.func322,Tryz.ntmps322;go_wp2_with (first
   | (go_at_fn 224;refine (Tryz.internal_strconv_numDigits u O o _ (Lib.tabIs_alloc M _)).mono ?_;rintro e w' ⟨rfl,rfl⟩))
  go_at_fn 225;refine z.mono ?_;rintro e w' ⟨rfl,k,v',I,rfl,hF⟩;have ah:(convert 87 9 (.slice (some ⟨w.heap.size,0,none⟩) (Lib.nDigits u) 24)).run Tryz.prog ((putRow (λ(b:UInt8)=>Value.int .u8 (b.toNat:Int)) (w.alloc (.cells Lib.zeros24 272)) w.heap.size 0 I).drewN k)=.ok (.string ⟨(Lib.decDigits u).toArray⟩) ((putRow (λ(b:UInt8)=>Value.int .u8 (b.toNat:Int)) (w.alloc (.cells Lib.zeros24 272)) w.heap.size 0 I).drewN k):=by
   have h:=run_convert_bytes_back (P:=Tryz.prog) ((putRow (λ(b:UInt8)=>Value.int .u8 (b.toNat:Int)) (w.alloc (.cells Lib.zeros24 272)) w.heap.size 0 I).drewN k) 87 9 5 ⟨w.heap.size,0,none⟩ 24 (Lib.decDigits u) Tryz.underlying87 Tryz.underlying5 Tryz.underlying9 (λj hj=>by rw [Lib.row_is_numeral hF j hj,Lib.add_plain,World.cell?_drewN];exact cell?_putRow (λ(b:UInt8)=>Value.int .u8 (b.toNat:Int)) _ w.heap.size 0 _ I Z.out (by rw [hF.size,Array.size_replicate]) j (by rw [hF.size];rw [Lib.decDigits_length] at hj;exact hj))
   rw [Lib.decDigits_length] at h;exact h
  go_wp2;go_ret;obtain ⟨os,eo⟩:=fin0 w (.cells Lib.zeros24 272) I k;exact ⟨rfl,k,os,eo⟩
def au8 (h:Nat) (u base:Int):Option Bq:=bif decide (0<=u)&&decide (u<=18446744073709551615)&&decide (base=10) then some (decB u.toNat) else none
def a7a (h:Nat):CallE:={ f:=322,A:=⟨2,[],[.int .u64,.int .i64]⟩,R:=⟨1,[],[.str]⟩,F:=λx=>au8 h x.1 x.2,dflt:=[] }
theorem a4p (o:Nat):(a7a o).Ok Tryz.prog:=by intro x y h;obtain ⟨n,base⟩:=x;have h:au8 o n base=some y:=h;unfold au8 at h;obtain ⟨I,rfl⟩:=aa0 h;simp only [Ai,A6] at I;obtain ⟨⟨M,H⟩,rfl⟩:=I;obtain ⟨u,rfl⟩:∃ u:Nat,n=(u:Int):=⟨n.toNat,(Int.toNat_of_nonneg M).symm⟩;refine aea (aa7 Tryz.func322 (by kernel_rfl) (by kernel_rfl)) (λD ow μ w J z=>?_);obtain ⟨v,b,rfl,H,O⟩:=a3p z;cases H;cases O;refine (aqm u (by omega) w (a8h z.tabs)).mono ?_;rintro e w' ⟨rfl,k,Z,rfl⟩;refine ⟨_,rfl,λaa ab st'=>?_,ani w k Z⟩;rw [Aj,<-aok (by omega)];exact .str
end Go.Ab
namespace Go.Ab
open Go Go.Proofs Go.Shelf Go.RowKit Go.Lib
def aa6 (c:UInt8):Bq->List Bq
 | []=>[[]]
 | b::r=>bif b==c then []::aa6 c r else match aa6 c r with | x::q=>(b::x)::q | []=>[[b]]
theorem ajg (c:UInt8):∀ s,aa6 c s≠[]:=by
 intro s;cases s with
 | nil=>simp [aa6]
 | cons b r=>
  simp only [aa6];cases (b==c)
  ·simp only [Ah];split<;>simp
  ·simp
theorem ayd (s:Bq) (c:UInt8):indexByte s c=-1\/∃ n:Nat,indexByte s c=n:=by
 have:=indexByte_ge s c;rcases Int.lt_or_le (indexByte s c) 0 with h | h
 ·exact Or.inl (by omega)
 ·exact Or.inr ⟨(indexByte s c).toNat,by omega⟩
theorem atm (c b:UInt8) (h:(b==c)=false):∀ (k:Nat) (r:Bq),splitK [c] 0 k (b::r)=match splitK [c] 0 k r with | x::q=>(b::x)::q | []=>[[b]]:=by
 intro k r;have Z:b≠c:=by intro e;rw [e] at h;simp at h
 cases k with
 | zero=>rfl
 | succ k=>
  have z:index (b::r) [c]=if indexByte r c==-1 then -1 else indexByte r c+1:=by rw [index_one];simp only [indexByte,h,A7,A8]
  have H:index r [c]=indexByte r c:=index_one r c;unfold splitK;rw [z,H];rcases ayd r c with o | ⟨n,o⟩
  ·simp [o]
  ·have I:((n:Int)==-1)=false:=by rw [Bn];omega
   have J:((n:Int)+1==-1)=false:=by rw [Bn];omega
   simp only [o,I,J,A7,A8];have M:((n:Int)+1).toNat=n+1:=by omega
   have O:((n:Int)).toNat=n:=by omega
   rw [M,O];simp [Nat.add_right_comm]
theorem az1 (c:UInt8):∀ (s:Bq) (k:Nat),s.count c<=k->splitK [c] 0 k s=aa6 c s:=by
 intro s;induction s with
 | nil=>
  intro k _;cases k with
  | zero=>rfl
  | succ k=>simp [splitK,aa6,index_one,indexByte]
 | cons b r H=>
  intro k z;cases h:(b==c) with
  | false=>
   have o:b≠c:=by intro e;rw [e] at h;simp at h
   rw [atm c b h,H k (by rw [List.count_cons_of_ne (by simpa using o)] at z;exact z)];rw [aa6,h];first | done | rfl
  | true=>
   have o:b=c:=by simpa using h
   subst o;rw [List.count_cons_self] at z;cases k with
   | zero=>omega
   | succ k=>
    unfold splitK;have I:index (b::r) [b]=0:=by rw [index_one];simp [indexByte]
    rw [I];have J:((0:Int)==-1)=false:=by decide
    simp only [J,A7,A8];simp only [aa6,h,Af];simp;exact H k (by omega)
theorem awr (s:Bq) (c:UInt8):(splitB ⟨#[c]⟩ 0 (countB ⟨s.toArray⟩ ⟨#[c]⟩) ⟨s.toArray⟩).map (·.data.toList)=aa6 c s:=by rw [splitB_data];show splitK [c] 0 _ s=_;refine az1 c s _ ?_;show _<=Lib.count s [c];rw [Lib.count_one];exact Nat.le_refl _
set_option maxHeartbeats 1000000 in
theorem az2 (s:ByteArray) (c:UInt8) (w:World) (Z:s.size<4294967281):
 Calls Tryz.prog 299 #[.string s,.string ⟨#[c]⟩] w λe w'=>e=.returned (.slice (some ⟨w.heap.size,0,none⟩) (Lib.countB s ⟨#[c]⟩+1) (Lib.countB s ⟨#[c]⟩+1))/\
  w'=w.alloc (.cells ((Lib.splitB ⟨#[c]⟩ 0 (Lib.countB s ⟨#[c]⟩) s).map Value.string).toArray 9):=by
 have H:1<=(⟨#[c]⟩:ByteArray).size:=Nat.le_refl 1
 have O:=Lib.countB_le ⟨#[c]⟩ H s.size s (Nat.le_refl _)
 have h:=Lib.splitB_all ⟨#[c]⟩ H 0 _ s rfl
 have z:=Any.strings_genSplit_core (P:=Tryz.prog) Tryz.lays221 (by kernel_rfl) s ⟨#[c]⟩ 0 (-1) (Lib.countB s ⟨#[c]⟩+1) w Z H (Nat.zero_le _)
  (λx cs _=>(Any.strings_Index_one Tryz.lays143 x c _).mono λe w' ⟨I,o⟩=>⟨by rw [I];exact congrArg (λi:Int=>Ending.returned (Value.int .i64 i)) (index_one x.data.toList c).symm,o⟩)
  ((
   Any.strings_Count_one Tryz.lays138 s c w).mono λe w' ⟨I,o⟩=>⟨by
   rw [I]
   show _=Ending.returned (Value.int .i64 ((Lib.count s.data.toList [c]:Nat):Int))
   rw [Lib.count_one]
   rfl,o⟩) (by decide) (by decide) (by rw [if_pos (by decide)];omega)
 rw [Nat.add_sub_cancel,h] at z
 have M:Lib.cellsOf (Lib.splitB ⟨#[c]⟩ 0 (Lib.countB s ⟨#[c]⟩) s) (Lib.countB s ⟨#[c]⟩+1)=((Lib.splitB ⟨#[c]⟩ 0 (Lib.countB s ⟨#[c]⟩) s).map Value.string).toArray:=by rw [<-h];exact Lib.cellsOf_full _
 rw [M] at z
 have J:∀ args w,(callFunc 314 args).run Tryz.prog w=.ok (.enter 314 args) w:=aa7 Tryz.func314 (by kernel_rfl) (by kernel_rfl)
 go_enter Tryz.func299,Tryz.ntmps299
 go_wp2_with (go_at_fn 314;refine z.mono ?_;rintro e w' ⟨rfl,o⟩;rw [o])
 go_ret
 exact ⟨rfl,rfl⟩
theorem asn {P:Program}{f:FuncId}{args:List SV}{E:TypeId}{xs:List PV} (he:aks P f)
 (h:∀ (D:Dom) (ow:Own) (μ:Nat->Nat) (w:World) (z:Array Value),Pre P D ow μ [] w args z->∃ (cs:List Value) (cap:Nat),xs.length<=cap/\cs.length=xs.length*P.cellsOf E/\(∀ (D':Dom) (w':World) (i:Nat) (x:PV),xs[i]?=some x->Rep P D' w' E x ((cs.drop (i*P.cellsOf E)).take (P.cellsOf E)))/\
  Calls P f z w λe w'=>e=.returned (.slice (some ⟨w.heap.size,0,none⟩) xs.length cap)/\w'=w.alloc (.cells cs.toArray E)):Meets P f args [] [.slice E xs] []:=by
 refine ⟨he,λD ow μ w z H=>?_⟩
 obtain ⟨cs,cap,O,Z,h3,h4⟩:=h D ow μ w z H
 refine h4.mono ?_
 rintro e w' ⟨rfl,rfl⟩
 have I:Keeps D w (w.alloc (.cells cs.toArray E)):=Keeps.of_heap λb o d=>aa4 w _ b (H.dlt b o d)
 refine ⟨_,λb o=>D b o\/(b=w.heap.size/\o<cs.length),rfl,λ_ _ d=>Or.inl d,λb o d=>d.imp id λd=>Or.inl (by omega),⟨λ_=>none,μ,⟨λk b h=>(by simp at h),λb k h=>(by cases h),λb o d=>?_,λb k x h=>(by cases h)⟩,.slice (.mk O Z (λi x hx=>h3 _ _ i x hx) (λj u M=>?_)),λb k h=>(by cases h),λk b h=>(by simp at h),λk E g xs ys h=>(by simp at h)⟩,rfl,rfl,rfl,by simp,λb J _=>aa4 w _ b J,I⟩
 ·rcases d with d | ⟨rfl,_⟩
  ·have:=H.dlt b o d;simp;omega
  ·simp
 ·have aa:=(List.getElem?_eq_some_iff.1 M).1;refine ⟨Or.inr ⟨rfl,by omega⟩,?_⟩;rw [Nat.zero_add,World.cell?_alloc_new];simpa using M
def anf (o:Nat) (s h:Bq):Option (List PV):=
 match h with
 | [c]=>bif Nat.blt s.length 4294967281 then some ((aa6 c s).map PV.str) else none
 | _=>none
def aw7 (h:Nat):CallE:={ f:=299,A:=⟨2,[],[.str,.str]⟩,R:=⟨1,[],[.slice 9]⟩,F:=λx=>anf h x.1 x.2,dflt:=[] }
theorem a0n (o:Nat):(aw7 o).Ok Tryz.prog:=by
 intro x y h;obtain ⟨s,J⟩:=x;have h:anf o s J=some y:=h;unfold anf at h;obtain ⟨c,rfl⟩:∃ c,J=[c]:=by
  match J,h with
  | [c],_=>exact ⟨c,rfl⟩
 obtain ⟨O,rfl⟩:=aa0 h;have O:s.length<4294967281:=Aw O;have M:Tryz.prog.cellsOf 9=1:=by kernel_rfl
 refine asn (E:=9) (xs:=(aa6 c s).map PV.str) (aa7 Tryz.func299 (by kernel_rfl) (by kernel_rfl)) (λD ow μ w ab aa=>?_);obtain ⟨v,u,rfl,a1,a2⟩:=a3p aa;cases a1;cases a2;have H:=awr s c;have z:=Lib.splitB_all ⟨#[c]⟩ (Nat.le_refl 1) 0 _ ⟨s.toArray⟩ rfl;have I:(aa6 c s).length=Lib.countB ⟨s.toArray⟩ ⟨#[c]⟩+1:=by rw [<-H,List.length_map];exact z
 refine ⟨(Lib.splitB ⟨#[c]⟩ 0 (Lib.countB ⟨s.toArray⟩ ⟨#[c]⟩) ⟨s.toArray⟩).map Value.string,Lib.countB ⟨s.toArray⟩ ⟨#[c]⟩+1,by rw [List.length_map,I];exact Nat.le_refl _,by rw [List.length_map,List.length_map,z,I,M,Nat.mul_one],λD' w' i x Z=>?_,?_⟩
 ·rw [<-H] at Z;simp only [Bf,Option.map_eq_some_iff] at Z;obtain ⟨p,⟨q,hq,rfl⟩,rfl⟩:=Z;have hi:=(List.getElem?_eq_some_iff.1 hq).1;rw [M,Nat.mul_one];have:((List.map Value.string (splitB ⟨#[c]⟩ 0 (countB ⟨s.toArray⟩ ⟨#[c]⟩) ⟨s.toArray⟩)).drop i).take 1=[.string ⟨q.data.toList.toArray⟩]:=by
   rw [List.drop_eq_getElem_cons (by simpa using hi)];have h2:=(List.getElem?_eq_some_iff.1 hq).2;simp [h2]
  rw [this];exact .str Tryz.underlying9
 ·have:=az2 ⟨s.toArray⟩ c w (by simpa [ByteArray.size] using O);refine this.mono ?_;rintro e w' ⟨rfl,rfl⟩;exact ⟨by rw [List.length_map,I],rfl⟩
end Go.Ab
