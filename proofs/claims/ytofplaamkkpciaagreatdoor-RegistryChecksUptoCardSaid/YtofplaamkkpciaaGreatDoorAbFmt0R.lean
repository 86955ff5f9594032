/- strconv.FormatUint at base 10: the decimal numeral. -/
import Derived.Test.YtofplaamkkpciaaGreatDoorAbLibR
import Derived.Lib.ItoaMem
import Derived.BigCall
import Derived.BigGuard
import Derived.Lib.Split
import Derived.Lib.SplitLaws
set_option linter.unusedVariables false
set_option linter.unusedSimpArgs false
set_option linter.unnecessarySimpa false
namespace Go.Ab
open Go Go.Proofs Go.Shelf Go.RowKit Go.Sort Go.Lib
theorem a0c(w:World)(T:TypeId)(m:Nat)(z:m<=24):Holds (λ(b:UInt8)=>Value.int .u8 (b.toNat:Int)) (w.alloc (.cells zeros24 T)) w.heap.size 0 (Array.replicate m (0:UInt8)):=λj o=>by
 have t:j<m:=by simpa using o
 refine⟨?_,World.frozen?_alloc_new _ _ _ _⟩;rw[World.cell?_alloc_new,zeros24_at _ (by omega),getElem!_pos _ j o];simp
theorem fin0(w:World)(o:Obj)(t:Array UInt8)(k:Nat):∃z,(putRow (λ(b:UInt8)=>Value.int .u8 (b.toNat:Int)) (w.alloc o) w.heap.size 0 t).drewN k=grow (w.drewN k) z:=by rw[alloc_eq_grow];obtain⟨m,_,e⟩:=putRow_grow_new (λ(b:UInt8)=>Value.int .u8 (b.toNat:Int)) w #[o] w.heap.size 0 t (Nat.le_refl _);exact⟨m,by rw[e];rfl⟩
set_option maxHeartbeats 6400000 in
set_option maxRecDepth 100000 in
theorem axj (u:Nat) (m:u<18446744073709551616) (w:World) (H:Lib.TabIs Tryz.prog w "internal/strconv.uint64pow10" .u64 Lib.pow10Tab):
 Calls Tryz.prog 466 #[.int .u64 u,.int .i64 10] w λe w'=>e=.returned (.string ⟨(Lib.decDigits u).toArray⟩)/\∃k V,w'=grow (w.drewN k) V:=by
 have Y:∀args w,(callFunc 459 args).run Tryz.prog w=.ok (.enter 459 args) w:=aa1 Tryz.func459 (by kernel_rfl) (by kernel_rfl)
 have Z:∀args w,(callFunc 460 args).run Tryz.prog w=.ok (.enter 460 args) w:=aa1 Tryz.func460 (by kernel_rfl) (by kernel_rfl)
 have aa:∀args w,(callFunc 461 args).run Tryz.prog w=.ok (.enter 461 args) w:=aa1 Tryz.func461 (by kernel_rfl) (by kernel_rfl)
 by_cases hi:u<100
 ·go_enter Tryz.func466,Tryz.ntmps466;go_wp2_with (go_at_fn 459;refine(Tryz.internal_strconv_small u hi _).mono ?_;rintro e w' ⟨rfl,rfl⟩);go_ret;exact⟨rfl,0,#[],by simp[World.drewN_zero]⟩
 ·have I:1<=u:=by omega
  have U:Lib.nDigits u<=20:=by have:=Lib.numDigits_eq u I m;split at this<;>omega
  have ab:Lib.nDigits u<=23:=by omega
  have G:Tryz.prog.arrayLen 405=24:=by simp[Program.arrayLen,Tryz.underlying405]
  have X:∀W,(Instr.sliceAt 405 (.pointer (some ⟨w.heap.size,0,none⟩)) none (some (.int .i64 (Lib.nDigits u:Int))) none).run Tryz.prog W=.ok (.slice (some ⟨w.heap.size,0,none⟩) (Lib.nDigits u) 24) W:=λW=>by rw[run_sliceAt_array_h W 405 ⟨w.heap.size,0,none⟩ (by simp[Program.arrayLen,Program.elem,Tryz.underlying405]) .i64 (Lib.nDigits u:Int) (by omega) (by rw[G];omega)];go_simp
  have t:Holds (λ(b:UInt8)=>Value.int .u8 (b.toNat:Int)) (w.alloc (.cells Lib.zeros24 405)) w.heap.size 0 (Array.replicate (Lib.nDigits u) 0):=a0c w 405 _ (by omega);have o:=Tryz.internal_strconv_formatBase10 w.heap.size 0 24 u (Array.replicate (Lib.nDigits u) 0) (w.alloc (.cells Lib.zeros24 405)) t (by rw[Array.size_replicate];exact Lib.lt_pow_nDigits u) m (by rw[Array.size_replicate];omega);rw[Array.size_replicate]at o;have J:=Lib.hid t;clear t G;go_enter Tryz.func466,Tryz.ntmps466;go_wp2_with (first
   |(go_at_fn 460;refine(Tryz.internal_strconv_numDigits u I m _ (Lib.tabIs_alloc H _)).mono ?_;rintro e w' ⟨rfl,rfl⟩))
  go_at_fn 461;refine o.mono ?_;rintro e w' ⟨rfl,k,v',z,rfl,M⟩;have ad:(convert 256 9 (.slice (some ⟨w.heap.size,0,none⟩) (Lib.nDigits u) 24)).run Tryz.prog ((putRow (λ(b:UInt8)=>Value.int .u8 (b.toNat:Int)) (w.alloc (.cells Lib.zeros24 405)) w.heap.size 0 z).drewN k)=.ok (.string ⟨(Lib.decDigits u).toArray⟩) ((putRow (λ(b:UInt8)=>Value.int .u8 (b.toNat:Int)) (w.alloc (.cells Lib.zeros24 405)) w.heap.size 0 z).drewN k):=by
   have h:=run_convert_bytes_back (P:=Tryz.prog) ((putRow (λ(b:UInt8)=>Value.int .u8 (b.toNat:Int)) (w.alloc (.cells Lib.zeros24 405)) w.heap.size 0 z).drewN k) 256 9 5 ⟨w.heap.size,0,none⟩ 24 (Lib.decDigits u) Tryz.underlying256 Tryz.underlying5 Tryz.underlying9 (λj O=>by rw[Lib.row_is_numeral M j O,Lib.add_plain,World.cell?_drewN];exact cell?_putRow (λ(b:UInt8)=>Value.int .u8 (b.toNat:Int)) _ w.heap.size 0 _ z J.out (by rw[M.size,Array.size_replicate]) j (by rw[M.size];rw[Lib.decDigits_length]at O;exact O))
   rw[Lib.decDigits_length]at h;exact h
  go_wp2;go_ret;obtain⟨V,eo⟩:=fin0 w (.cells Lib.zeros24 405) z k;exact⟨rfl,k,V,eo⟩
def a4k(m:Nat)(u base:Int):Option Bn:=bif decide (0<=u)&&decide (u<=18446744073709551615)&&decide (base=10)then some (decB u.toNat)else none
def bgi(m:Nat):CallE:={ f:=466,A:=⟨2,[],[.int .u64,.int .i64]⟩,R:=⟨1,[],[.str]⟩,F:=λx=>a4k m x.1 x.2,dflt:=[] }
theorem a7o(m:Nat):(bgi m).Ok Tryz.prog:=by intro x y h;obtain⟨n,base⟩:=x;have h:a4k m n base=some y:=h;unfold a4k at h;obtain⟨z,rfl⟩:=aaz h;simp only[Ai,Ax]at z;obtain⟨⟨H,t⟩,rfl⟩:=z;obtain⟨u,rfl⟩:∃u:Nat,n=(u:Int):=⟨n.toNat,(Int.toNat_of_nonneg H).symm⟩;refine ae6 (aa1 Tryz.func466 (by kernel_rfl) (by kernel_rfl)) (λD ow μ w G o=>?_);obtain⟨v,b,rfl,t,I⟩:=bge o;cases t;cases I;refine(axj u (by omega) w (blr o.tabs)).mono ?_;rintro e w' ⟨rfl,k,J,rfl⟩;refine⟨_,rfl,λM O st'=>?_,as9 w k J⟩;rw[Ae,<-aul (by omega)];exact .str
end Go.Ab
namespace Go.Ab
open Go Go.Proofs Go.Shelf Go.RowKit Go.Lib
def aa4(c:UInt8):Bn->List Bn
 |[]=>[[]]
 |b::r=>bif b==c then[]::aa4 c r else match aa4 c r with|x::q=>(b::x)::q|[]=>[[b]]
theorem aml(c:UInt8):∀s,aa4 c s≠[]:=by
 intro s;cases s with
 |nil=>simp[aa4]
 |cons b r=>
  simp only[aa4];cases(b==c)
  ·simp only[Af];split<;>simp
  ·simp
theorem a9w(s:Bn)(c:UInt8):indexByte s c=-1\/∃n:Nat,indexByte s c=n:=by
 have:=indexByte_ge s c;rcases Int.lt_or_le (indexByte s c) 0 with h|h
 ·exact Or.inl (by omega)
 ·exact Or.inr ⟨(indexByte s c).toNat,by omega⟩
theorem a1k(c b:UInt8)(h:(b==c)=false):∀(k:Nat)(r:Bn),splitK [c] 0 k (b::r)=match splitK [c] 0 k r with|x::q=>(b::x)::q|[]=>[[b]]:=by
 intro k r;have J:b≠c:=by intro e;rw[e]at h;simp at h
 cases k with
 |zero=>rfl
 |succ k=>
  have o:index (b::r) [c]=if indexByte r c==-1 then -1 else indexByte r c+1:=by rw[index_one];simp only[indexByte,h,A3,A9]
  have t:index r [c]=indexByte r c:=index_one r c;unfold splitK;rw[o,t];rcases a9w r c with m|⟨n,m⟩
  ·simp[m]
  ·have z:((n:Int)==-1)=false:=by rw[Be];omega
   have G:((n:Int)+1==-1)=false:=by rw[Be];omega
   simp only[m,z,G,A3,A9];have H:((n:Int)+1).toNat=n+1:=by omega
   have I:((n:Int)).toNat=n:=by omega
   rw[H,I];simp[Nat.add_right_comm]
theorem bcf(c:UInt8):∀(s:Bn)(k:Nat),s.count c<=k->splitK [c] 0 k s=aa4 c s:=by
 intro s;induction s with
 |nil=>
  intro k _;cases k with
  |zero=>rfl
  |succ k=>simp[splitK,aa4,index_one,indexByte]
 |cons b r t=>
  intro k o;cases h:(b==c)with
  |false=>
   have m:b≠c:=by intro e;rw[e]at h;simp at h
   rw[a1k c b h,t k (by rw[List.count_cons_of_ne (by simpa using m)]at o;exact o)];rw[aa4,h];first|done|rfl
  |true=>
   have m:b=c:=by simpa using h
   subst m;rw[List.count_cons_self]at o;cases k with
   |zero=>omega
   |succ k=>
    unfold splitK;have z:index (b::r) [b]=0:=by rw[index_one];simp[indexByte]
    rw[z];have G:((0:Int)==-1)=false:=by decide
    simp only[G,A3,A9];simp only[aa4,h,Ad];simp;exact t k (by omega)
theorem a7a(s:Bn)(c:UInt8):(splitB ⟨#[c]⟩ 0 (countB ⟨s.toArray⟩ ⟨#[c]⟩) ⟨s.toArray⟩).map (·.data.toList)=aa4 c s:=by rw[splitB_data];show splitK [c] 0 _ s=_;refine bcf c s _ ?_;show _<=Lib.count s [c];rw[Lib.count_one];exact Nat.le_refl _
set_option maxHeartbeats 1000000 in
theorem bcg(s:ByteArray)(c:UInt8)(w:World)(M:s.size<4294967281):
 Calls Tryz.prog 69 #[.string s,.string ⟨#[c]⟩] w λe w'=>e=.returned (.slice (some ⟨w.heap.size,0,none⟩) (Lib.countB s ⟨#[c]⟩+1) (Lib.countB s ⟨#[c]⟩+1))/\
  w'=w.alloc (.cells ((Lib.splitB ⟨#[c]⟩ 0 (Lib.countB s ⟨#[c]⟩) s).map Value.string).toArray 9):=by
 have z:1<=(⟨#[c]⟩:ByteArray).size:=Nat.le_refl 1
 have J:=Lib.countB_le ⟨#[c]⟩ z s.size s (Nat.le_refl _)
 have m:=Lib.splitB_all ⟨#[c]⟩ z 0 _ s rfl
 have t:=Any.strings_genSplit_core (P:=Tryz.prog) Tryz.lays221 (by kernel_rfl) s ⟨#[c]⟩ 0 (-1) (Lib.countB s ⟨#[c]⟩+1) w M z (Nat.zero_le _)
  (λx cs _=>(Any.strings_Index_one Tryz.lays143 x c _).mono λe w'⟨G,o⟩=>⟨by rw[G];exact congrArg (λi:Int=>Ending.returned (Value.int .i64 i)) (index_one x.data.toList c).symm,o⟩)
  ((
   Any.strings_Count_one Tryz.lays138 s c w).mono λe w'⟨G,o⟩=>⟨by
   rw[G]
   show _=Ending.returned (Value.int .i64 ((Lib.count s.data.toList [c]:Nat):Int))
   rw[Lib.count_one]
   rfl,o⟩) (by decide) (by decide) (by rw[if_pos (by decide)];omega)
 rw[Nat.add_sub_cancel,m]at t
 have I:Lib.cellsOf (Lib.splitB ⟨#[c]⟩ 0 (Lib.countB s ⟨#[c]⟩) s) (Lib.countB s ⟨#[c]⟩+1)=((Lib.splitB ⟨#[c]⟩ 0 (Lib.countB s ⟨#[c]⟩) s).map Value.string).toArray:=by rw[<-m];exact Lib.cellsOf_full _
 rw[I]at t
 have H:∀args w,(callFunc 104 args).run Tryz.prog w=.ok (.enter 104 args) w:=aa1 Tryz.func104 (by kernel_rfl) (by kernel_rfl)
 go_enter Tryz.func69,Tryz.ntmps69
 go_wp2_with (go_at_fn 104;refine t.mono ?_;rintro e w' ⟨rfl,o⟩;rw[o])
 go_ret
 exact⟨rfl,rfl⟩
theorem az9{P:Program}{f:FuncId}{args:List SV}{E:TypeId}{xs:List PV}(U:ak3 P f)
 (h:∀(D:Dom)(ow:Own)(μ:Nat->Nat)(w:World)(m:Array Value),Pre P D ow μ [] w args m->∃(cs:List Value)(cap:Nat),xs.length<=cap/\cs.length=xs.length*P.cellsOf E/\(∀(D':Dom)(w':World)(i:Nat)(x:PV),xs[i]?=some x->Rep P D' w' E x ((cs.drop (i*P.cellsOf E)).take (P.cellsOf E)))/\
  Calls P f m w λe w'=>e=.returned (.slice (some ⟨w.heap.size,0,none⟩) xs.length cap)/\w'=w.alloc (.cells cs.toArray E)):Meets P f args [] [.slice E xs] []:=by
 refine⟨U,λD ow μ w m t=>?_⟩
 obtain⟨cs,cap,I,J,M,O⟩:=h D ow μ w m t
 refine O.mono ?_
 rintro e w' ⟨rfl,rfl⟩
 have z:Keeps D w (w.alloc (.cells cs.toArray E)):=Keeps.of_heap λb o d=>abc w _ b (t.dlt b o d)
 refine⟨_,λb o=>D b o\/(b=w.heap.size/\o<cs.length),rfl,λ_ _ d=>Or.inl d,λb o d=>d.imp id λd=>Or.inl (by omega),⟨λ_=>none,μ,⟨λk b h=>(by simp at h),λb k h=>(by cases h),λb o d=>?_,λb k x h=>(by cases h)⟩,.slice (.mk I J (λi x W=>M _ _ i x W) (λj u H=>?_)),λb k h=>(by cases h),λk b h=>(by simp at h),λk E g xs ys h=>(by simp at h)⟩,rfl,rfl,rfl,by simp,λb G _=>abc w _ b G,z⟩
 ·rcases d with d|⟨rfl,_⟩
  ·have:=t.dlt b o d;simp;omega
  ·simp
 ·have V:=(A6.1 H).1;refine⟨Or.inr ⟨rfl,by omega⟩,?_⟩;rw[Nat.zero_add,World.cell?_alloc_new];simpa using H
def ant(o:Nat)(s m:Bn):Option (List PV):=
 match m with
 |[c]=>bif Nat.blt s.length 4294967281 then some ((aa4 c s).map PV.str)else none
 |_=>none
def ao8(m:Nat):CallE:={ f:=69,A:=⟨2,[],[.str,.str]⟩,R:=⟨1,[],[.slice 9]⟩,F:=λx=>ant m x.1 x.2,dflt:=[] }
theorem aoq(m:Nat):(ao8 m).Ok Tryz.prog:=by
 intro x y h;obtain⟨s,G⟩:=x;have h:ant m s G=some y:=h;unfold ant at h;obtain⟨c,rfl⟩:∃c,G=[c]:=by
  match G,h with
  |[c],_=>exact⟨c,rfl⟩
 obtain⟨I,rfl⟩:=aaz h;have I:s.length<4294967281:=At I;have H:Tryz.prog.cellsOf 9=1:=by kernel_rfl
 refine az9 (E:=9) (xs:=(aa4 c s).map PV.str) (aa1 Tryz.func69 (by kernel_rfl) (by kernel_rfl)) (λD ow μ w U M=>?_);obtain⟨v,u,rfl,V,W⟩:=bge M;cases V;cases W;have t:=a7a s c;have o:=Lib.splitB_all ⟨#[c]⟩ (Nat.le_refl 1) 0 _ ⟨s.toArray⟩ rfl;have z:(aa4 c s).length=Lib.countB ⟨s.toArray⟩ ⟨#[c]⟩+1:=by rw[<-t,List.length_map];exact o
 refine⟨(Lib.splitB ⟨#[c]⟩ 0 (Lib.countB ⟨s.toArray⟩ ⟨#[c]⟩) ⟨s.toArray⟩).map Value.string,Lib.countB ⟨s.toArray⟩ ⟨#[c]⟩+1,by rw[List.length_map,z];exact Nat.le_refl _,by rw[List.length_map,List.length_map,o,z,H,Nat.mul_one],λD' w' i x J=>?_,?_⟩
 ·rw[<-t]at J;simp only[Bf,Option.map_eq_some_iff]at J;obtain⟨p,⟨q,O,rfl⟩,rfl⟩:=J;have Y:=(A6.1 O).1;rw[H,Nat.mul_one];have:((List.map Value.string (splitB ⟨#[c]⟩ 0 (countB ⟨s.toArray⟩ ⟨#[c]⟩) ⟨s.toArray⟩)).drop i).take 1=[.string ⟨q.data.toList.toArray⟩]:=by
   rw[List.drop_eq_getElem_cons (by simpa using Y)];have X:=(A6.1 O).2;simp[X]
  rw[this];exact .str Tryz.underlying9
 ·have:=bcg ⟨s.toArray⟩ c w (by simpa[ByteArray.size]using I);refine this.mono ?_;rintro e w' ⟨rfl,rfl⟩;exact⟨by rw[List.length_map,z],rfl⟩
def ab0(m:Nat):CallE:={ f:=314,A:=⟨2,[.bld 260],[.con (.bref 0 258),.str,.str]⟩,R:=⟨2,[.bld 260],[.int .i64,.raw,.str]⟩,F:=λx=>aa3 m x.2.1 x.2.2,dflt:=(0,undef,[]) }
theorem apj:a7l 260:=⟨by kernel_rfl,by decide,by kernel_rfl⟩
theorem ab8(m:Nat):(ab0 m).Ok Tryz.prog:=by intro x y h;obtain⟨_,s,bs⟩:=x;have h:aa3 m s bs=some y:=h;unfold aa3 at h;obtain⟨o,rfl⟩:=aaz h;exact ag2 apj bs s (by simpa using o)
def ah9(m:Nat):CallE:={ f:=214,A:=⟨1,[.bld 260],[.con (.bref 0 258),.str]⟩,R:=⟨1,[.bld 260],[.str,.str]⟩,F:=λx=>ah7 m x.2,dflt:=([],[]) }
theorem ak6(m:Nat):(ah9 m).Ok Tryz.prog:=by intro x y h;obtain⟨_,bs⟩:=x;have h:some (bs,bs)=some y:=h;cases h;exact aoe apj bs
def af4(m:Nat):CallE:={ f:=317,A:=⟨1,[.bld 260],[.con (.bref 0 258),.str]⟩,R:=⟨1,[.bld 260],[.int .i64,.str]⟩,F:=λx=>awq m x.2,dflt:=(0,[]) }
theorem ag3(m:Nat):(af4 m).Ok Tryz.prog:=by intro x y h;obtain⟨_,bs⟩:=x;have h:some ((bs.length:Int),bs)=some y:=h;cases h;exact axs apj bs
end Go.Ab
