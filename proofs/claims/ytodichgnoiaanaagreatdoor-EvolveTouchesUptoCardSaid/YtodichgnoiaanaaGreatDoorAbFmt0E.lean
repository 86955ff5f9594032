/- strconv.FormatUint at base 10: the decimal numeral. -/
import Derived.Test.YtodichgnoiaanaaGreatDoorAbEvoE
import Derived.Lib.ItoaMem
import Derived.BigCall
import Derived.BigGuard
import Derived.Lib.Split
import Derived.Lib.SplitLaws
set_option linter.unusedVariables false
set_option linter.unusedSimpArgs false
set_option linter.unnecessarySimpa false
namespace Go.Ab
open Go Go.Proofs Go.Shelf Go.RowKit Go.Sort Go.Lib
theorem awk (w:World) (T:TypeId) (h:Nat) (H:h<=24):Holds (λ(b:UInt8)=>Value.int .u8 (b.toNat:Int)) (w.alloc (.cells zeros24 T)) w.heap.size 0 (Array.replicate h (0:UInt8)):=λj o=>by
 have z:j<h:=by simpa using o
 refine ⟨?_,World.frozen?_alloc_new _ _ _ _⟩;rw [World.cell?_alloc_new,zeros24_at _ (by omega),getElem!_pos _ j o];simp
theorem fin0 (w:World) (o:Obj) (z:Array UInt8) (k:Nat):∃ H,(putRow (λ(b:UInt8)=>Value.int .u8 (b.toNat:Int)) (w.alloc o) w.heap.size 0 z).drewN k=grow (w.drewN k) H:=by rw [alloc_eq_grow];obtain ⟨h,_,e⟩:=putRow_grow_new (λ(b:UInt8)=>Value.int .u8 (b.toNat:Int)) w #[o] w.heap.size 0 z (Nat.le_refl _);exact ⟨h,by rw [e];rfl⟩
set_option maxHeartbeats 6400000 in
set_option maxRecDepth 100000 in
theorem atx (u:Nat) (o:u<18446744073709551616) (w:World) (M:Lib.TabIs Tryz.prog w "internal/strconv.uint64pow10" .u64 Lib.pow10Tab):
 Calls Tryz.prog 238 #[.int .u64 u,.int .i64 10] w λe w'=>e=.returned (.string ⟨(Lib.decDigits u).toArray⟩)/\∃ k os,w'=grow (w.drewN k) os:=by
 have ad:∀ args w,(callFunc 173 args).run Tryz.prog w=.ok (.enter 173 args) w:=aa4 Tryz.func173 (by kernel_rfl) (by kernel_rfl)
 have ae:∀ args w,(callFunc 174 args).run Tryz.prog w=.ok (.enter 174 args) w:=aa4 Tryz.func174 (by kernel_rfl) (by kernel_rfl)
 have af:∀ args w,(callFunc 175 args).run Tryz.prog w=.ok (.enter 175 args) w:=aa4 Tryz.func175 (by kernel_rfl) (by kernel_rfl)
 by_cases hi:u<100
 ·go_enter Tryz.func238,Tryz.ntmps238;go_wp2_with (go_at_fn 173;refine (Tryz.internal_strconv_small u hi _).mono ?_;rintro e w' ⟨rfl,rfl⟩);go_ret;exact ⟨rfl,0,#[],by simp [World.drewN_zero]⟩
 ·have O:1<=u:=by omega
  have aa:Lib.nDigits u<=20:=by have:=Lib.numDigits_eq u O o;grind
  have ag:Lib.nDigits u<=23:=by omega
  have J:Tryz.prog.arrayLen 225=24:=by simp [Program.arrayLen,Tryz.underlying225]
  have ab:∀ W,(Instr.sliceAt 225 (.pointer (some ⟨w.heap.size,0,none⟩)) none (some (.int .i64 (Lib.nDigits u:Int))) none).run Tryz.prog W=.ok (.slice (some ⟨w.heap.size,0,none⟩) (Lib.nDigits u) 24) W:=λW=>by rw [run_sliceAt_array_h W 225 ⟨w.heap.size,0,none⟩ (by simp [Program.arrayLen,Program.elem,Tryz.underlying225]) .i64 (Lib.nDigits u:Int) (by omega) (by rw [J];omega)];go_simp
  have H:Holds (λ(b:UInt8)=>Value.int .u8 (b.toNat:Int)) (w.alloc (.cells Lib.zeros24 225)) w.heap.size 0 (Array.replicate (Lib.nDigits u) 0):=awk w 225 _ (by omega);have z:=Tryz.internal_strconv_formatBase10 w.heap.size 0 24 u (Array.replicate (Lib.nDigits u) 0) (w.alloc (.cells Lib.zeros24 225)) H (by grind [Array.size_replicate,Lib.lt_pow_nDigits]) o (by grind);rw [Array.size_replicate] at z;have Z:=Lib.hid H;clear H J;go_enter Tryz.func238,Tryz.ntmps238;go_wp2_with (first
   | (go_at_fn 174;refine (Tryz.internal_strconv_numDigits u O o _ (Lib.tabIs_alloc M _)).mono ?_;rintro e w' ⟨rfl,rfl⟩))
  go_at_fn 175;refine z.mono ?_;rintro e w' ⟨rfl,k,v',I,rfl,hF⟩;have ah:(convert 91 9 (.slice (some ⟨w.heap.size,0,none⟩) (Lib.nDigits u) 24)).run Tryz.prog ((putRow (λ(b:UInt8)=>Value.int .u8 (b.toNat:Int)) (w.alloc (.cells Lib.zeros24 225)) w.heap.size 0 I).drewN k)=.ok (.string ⟨(Lib.decDigits u).toArray⟩) ((putRow (λ(b:UInt8)=>Value.int .u8 (b.toNat:Int)) (w.alloc (.cells Lib.zeros24 225)) w.heap.size 0 I).drewN k):=by
   have h:=run_convert_bytes_back (P:=Tryz.prog) ((putRow (λ(b:UInt8)=>Value.int .u8 (b.toNat:Int)) (w.alloc (.cells Lib.zeros24 225)) w.heap.size 0 I).drewN k) 91 9 5 ⟨w.heap.size,0,none⟩ 24 (Lib.decDigits u) Tryz.underlying91 Tryz.underlying5 Tryz.underlying9 (λj hj=>by rw [Lib.row_is_numeral hF j hj,Lib.add_plain,World.cell?_drewN];exact cell?_putRow (λ(b:UInt8)=>Value.int .u8 (b.toNat:Int)) _ w.heap.size 0 _ I Z.out (by rw [hF.size,Array.size_replicate]) j (by rw [hF.size];grind [Lib.decDigits_length]))
   grind [Lib.decDigits_length]
  go_wp2;go_ret;obtain ⟨os,eo⟩:=fin0 w (.cells Lib.zeros24 225) I k;exact ⟨rfl,k,os,eo⟩
def azi (h:Nat) (u base:Int):Option Bo:=bif decide (0<=u)&&decide (u<=18446744073709551615)&&decide (base=10) then some (decB u.toNat) else none
def bdd (h:Nat):CallE:={ f:=238,A:=⟨2,[],[.int .u64,.int .i64]⟩,R:=⟨1,[],[.str]⟩,F:=λx=>azi h x.1 x.2,dflt:=[] }
theorem bbm (o:Nat):(bdd o).Ok Tryz.prog:=by intro x y h;obtain ⟨n,base⟩:=x;have h:azi o n base=some y:=h;unfold azi at h;obtain ⟨I,rfl⟩:=aaz h;simp only [Aj,A4] at I;obtain ⟨⟨M,H⟩,rfl⟩:=I;obtain ⟨u,rfl⟩:∃ u:Nat,n=(u:Int):=⟨n.toNat,(Int.toNat_of_nonneg M).symm⟩;refine aev (aa4 Tryz.func238 (by kernel_rfl) (by kernel_rfl)) (λD ow μ w J z=>?_);obtain ⟨v,b,rfl,H,O⟩:=bax z;cases H;cases O;refine (atx u (by omega) w (ber z.tabs)).mono ?_;rintro e w' ⟨rfl,k,Z,rfl⟩;refine ⟨_,rfl,λaa ab st'=>?_,ap7 w k Z⟩;rw [Ai,<-aq7 (by omega)];exact .str
end Go.Ab
namespace Go.Ab
open Go Go.Proofs Go.Shelf Go.RowKit Go.Lib
def aa8 (c:UInt8):Bo->List Bo
 | []=>[[]]
 | b::r=>bif b==c then []::aa8 c r else match aa8 c r with | x::q=>(b::x)::q | []=>[[b]]
theorem akz (c:UInt8):∀ s,aa8 c s≠[]:=by
 intro s;cases s with
 | nil=>simp [aa8]
 | cons b r=>simp only [aa8];grind
theorem a3m (s:Bo) (c:UInt8):indexByte s c=-1\/∃ n:Nat,indexByte s c=n:=by
 have:=indexByte_ge s c;rcases Int.lt_or_le (indexByte s c) 0 with h | h
 ·grind
 ·exact Or.inr ⟨(indexByte s c).toNat,by omega⟩
theorem axl (c b:UInt8) (h:(b==c)=false):∀ (k:Nat) (r:Bo),splitK [c] 0 k (b::r)=match splitK [c] 0 k r with | x::q=>(b::x)::q | []=>[[b]]:=by
 intro k r;have M:b≠c:=by grind
 cases k with
 | zero=>rfl
 | succ k=>
  have z:index (b::r) [c]=if indexByte r c==-1 then -1 else indexByte r c+1:=by rw [index_one];simp only [indexByte,h,A8,Bb]
  have H:index r [c]=indexByte r c:=index_one r c;unfold splitK;rw [z,H];rcases a3m r c with o | ⟨n,o⟩
  ·simp [o]
  ·have I:((n:Int)==-1)=false:=by grind
   have J:((n:Int)+1==-1)=false:=by grind
   simp_all
theorem a6b (c:UInt8):∀ (s:Bo) (k:Nat),s.count c<=k->splitK [c] 0 k s=aa8 c s:=by
 intro s;induction s with
 | nil=>
  intro k _;cases k with
  | zero=>rfl
  | succ k=>simp [splitK,aa8,index_one,indexByte]
 | cons b r J=>
  intro k I;cases h:(b==c) with
  | false=>grind [axl,List.count_cons_of_ne,aa8]
  | true=>
   have H:b=c:=by simpa using h
   subst H;rw [List.count_cons_self] at I;cases k with
   | zero=>omega
   | succ k=>
    unfold splitK;have o:index (b::r) [b]=0:=by rw [index_one];simp [indexByte]
    rw [o];have z:((0:Int)==-1)=false:=by decide
    simp only [z,A8,Bb];simp only [aa8,h,Af];grind
theorem a05 (s:Bo) (c:UInt8):(splitB ⟨#[c]⟩ 0 (countB ⟨s.toArray⟩ ⟨#[c]⟩) ⟨s.toArray⟩).map (·.data.toList)=aa8 c s:=by rw [splitB_data];show splitK [c] 0 _ s=_;refine a6b c s _ ?_;show _<=Lib.count s [c];rw [Lib.count_one];grind
set_option maxHeartbeats 1000000 in
theorem a6c (s:ByteArray) (c:UInt8) (w:World) (Z:s.size<4294967281):
 Calls Tryz.prog 214 #[.string s,.string ⟨#[c]⟩] w λe w'=>e=.returned (.slice (some ⟨w.heap.size,0,none⟩) (Lib.countB s ⟨#[c]⟩+1) (Lib.countB s ⟨#[c]⟩+1))/\
  w'=w.alloc (.cells ((Lib.splitB ⟨#[c]⟩ 0 (Lib.countB s ⟨#[c]⟩) s).map Value.string).toArray 9):=by
 have H:1<=(⟨#[c]⟩:ByteArray).size:=Nat.le_refl 1
 have O:=Lib.countB_le ⟨#[c]⟩ H s.size s (Nat.le_refl _)
 have h:=Lib.splitB_all ⟨#[c]⟩ H 0 _ s rfl
 have z:=Any.strings_genSplit_core (P:=Tryz.prog) Tryz.lays221 (by kernel_rfl) s ⟨#[c]⟩ 0 (-1) (Lib.countB s ⟨#[c]⟩+1) w Z H (Nat.zero_le _)
  (λx cs _=>(Any.strings_Index_one Tryz.lays143 x c _).mono λe w' ⟨I,o⟩=>⟨by rw [I];exact congrArg (λi:Int=>Ending.returned (Value.int .i64 i)) (index_one x.data.toList c).symm,o⟩)
  ((
   Any.strings_Count_one Tryz.lays138 s c w).mono λe w' ⟨I,o⟩=>⟨by
   rw [I]
   show _=Ending.returned (Value.int .i64 ((Lib.count s.data.toList [c]:Nat):Int))
   rw [Lib.count_one]
   rfl,o⟩) (by decide) (by decide) (by grind)
 rw [Nat.add_sub_cancel,h] at z
 have M:Lib.cellsOf (Lib.splitB ⟨#[c]⟩ 0 (Lib.countB s ⟨#[c]⟩) s) (Lib.countB s ⟨#[c]⟩+1)=((Lib.splitB ⟨#[c]⟩ 0 (Lib.countB s ⟨#[c]⟩) s).map Value.string).toArray:=by grind [Lib.cellsOf_full]
 rw [M] at z
 have J:∀ args w,(callFunc 230 args).run Tryz.prog w=.ok (.enter 230 args) w:=aa4 Tryz.func230 (by kernel_rfl) (by kernel_rfl)
 go_enter Tryz.func214,Tryz.ntmps214
 go_wp2_with (go_at_fn 230;refine z.mono ?_;rintro e w' ⟨rfl,o⟩;rw [o])
 go_ret
 exact ⟨rfl,rfl⟩
theorem awh {P:Program}{f:FuncId}{args:List SV}{E:TypeId}{xs:List PV} (he:amw P f)
 (h:∀ (D:Dom) (ow:Own) (μ:Nat->Nat) (w:World) (z:Array Value),Pre P D ow μ [] w args z->∃ (cs:List Value) (cap:Nat),xs.length<=cap/\cs.length=xs.length*P.cellsOf E/\(∀ (D':Dom) (w':World) (i:Nat) (x:PV),xs[i]?=some x->Rep P D' w' E x ((cs.drop (i*P.cellsOf E)).take (P.cellsOf E)))/\
  Calls P f z w λe w'=>e=.returned (.slice (some ⟨w.heap.size,0,none⟩) xs.length cap)/\w'=w.alloc (.cells cs.toArray E)):Meets P f args [] [.slice E xs] []:=by
 refine ⟨he,λD ow μ w z H=>?_⟩
 obtain ⟨cs,cap,M,O,Z,h4⟩:=h D ow μ w z H
 refine h4.mono ?_
 rintro e w' ⟨rfl,rfl⟩
 have I:Keeps D w (w.alloc (.cells cs.toArray E)):=Keeps.of_heap λb o d=>aa6 w _ b (H.dlt b o d)
 refine ⟨_,λb o=>D b o\/(b=w.heap.size/\o<cs.length),rfl,λ_ _ d=>Or.inl d,λb o d=>d.imp id λd=>Or.inl (by omega),⟨λ_=>none,μ,⟨λk b h=>(by simp at h),λb k h=>(by cases h),λb o d=>?_,λb k x h=>(by cases h)⟩,.slice (.mk M O (λi x hx=>Z _ _ i x hx) (λj u hj=>?_)),λb k h=>(by cases h),λk b h=>(by simp at h),λk E g xs ys h=>(by simp at h)⟩,rfl,rfl,rfl,by simp,λb J _=>aa6 w _ b J,I⟩
 ·rcases d with d | ⟨rfl,_⟩
  ·have:=H.dlt b o d;simp;omega
  ·simp
 ·have aa:=(A5.1 hj).1;simp_all
def ap2 (o:Nat) (s h:Bo):Option (List PV):=
 match h with
 | [c]=>bif Nat.blt s.length 4294967281 then some ((aa8 c s).map PV.str) else none
 | _=>none
def a1o (h:Nat):CallE:={ f:=214,A:=⟨2,[],[.str,.str]⟩,R:=⟨1,[],[.slice 9]⟩,F:=λx=>ap2 h x.1 x.2,dflt:=[] }
theorem a7c (o:Nat):(a1o o).Ok Tryz.prog:=by
 intro x y h;obtain ⟨s,z⟩:=x;have h:ap2 o s z=some y:=h;unfold ap2 at h;obtain ⟨c,rfl⟩:∃ c,z=[c]:=by
  match z,h with
  | [c],_=>grind
 obtain ⟨hb,rfl⟩:=aaz h;have hb:s.length<4294967281:=Aq hb;have H:Tryz.prog.cellsOf 9=1:=by kernel_rfl
 refine awh (E:=9) (xs:=(aa8 c s).map PV.str) (aa4 Tryz.func214 (by kernel_rfl) (by kernel_rfl)) (λD ow μ w aa Z=>?_);obtain ⟨v,u,rfl,a1,a2⟩:=bax Z;cases a1;cases a2;have J:=a05 s c;have I:=Lib.splitB_all ⟨#[c]⟩ (Nat.le_refl 1) 0 _ ⟨s.toArray⟩ rfl;have M:(aa8 c s).length=Lib.countB ⟨s.toArray⟩ ⟨#[c]⟩+1:=by grind
 refine ⟨(Lib.splitB ⟨#[c]⟩ 0 (Lib.countB ⟨s.toArray⟩ ⟨#[c]⟩) ⟨s.toArray⟩).map Value.string,Lib.countB ⟨s.toArray⟩ ⟨#[c]⟩+1,by grind,by rw [List.length_map,List.length_map,I,M,H,Nat.mul_one],λD' w' i x O=>?_,?_⟩
 ·rw [<-J] at O;simp only [Bh,Option.map_eq_some_iff] at O;obtain ⟨p,⟨q,hq,rfl⟩,rfl⟩:=O;have hi:=(A5.1 hq).1;rw [H,Nat.mul_one];have:((List.map Value.string (splitB ⟨#[c]⟩ 0 (countB ⟨s.toArray⟩ ⟨#[c]⟩) ⟨s.toArray⟩)).drop i).take 1=[.string ⟨q.data.toList.toArray⟩]:=by
   rw [List.drop_eq_getElem_cons (by simpa using hi)];have h2:=(A5.1 hq).2;simp [h2]
  rw [this];exact .str Tryz.underlying9
 ·have:=a6c ⟨s.toArray⟩ c w (by grind [ByteArray.size]);refine this.mono ?_;grind
end Go.Ab
