/- strconv.FormatUint at base 10: the decimal numeral. -/
import Derived.Test.YtjogoleiodbfdaaGreatDoorAbEvoE
import Derived.Lib.ItoaMem
import Derived.BigCall
import Derived.BigGuard
import Derived.Lib.Split
import Derived.Lib.SplitLaws
set_option linter.unusedVariables false
set_option linter.unusedSimpArgs false
set_option linter.unnecessarySimpa false
namespace Go.Ab
open Go Go.Proofs Go.Shelf Go.RowKit Go.Sort Go.Lib
theorem at4 (w:World) (T:TypeId) (h:Nat) (I:h<=24):Holds (λ(b:UInt8)=>Value.int .u8 (b.toNat:Int)) (w.alloc (.cells zeros24 T)) w.heap.size 0 (Array.replicate h (0:UInt8)):=λj o=>by
 have H:j<h:=by simpa using o
 refine ⟨?_,World.frozen?_alloc_new _ _ _ _⟩;rw [World.cell?_alloc_new,zeros24_at _ (by omega),getElem!_pos _ j o];simp
theorem fin0 (w:World) (o:Obj) (H:Array UInt8) (k:Nat):∃ I,(putRow (λ(b:UInt8)=>Value.int .u8 (b.toNat:Int)) (w.alloc o) w.heap.size 0 H).drewN k=grow (w.drewN k) I:=by rw [alloc_eq_grow];obtain ⟨h,_,e⟩:=putRow_grow_new (λ(b:UInt8)=>Value.int .u8 (b.toNat:Int)) w #[o] w.heap.size 0 H (Nat.le_refl _);exact ⟨h,by rw [e];rfl⟩
set_option maxHeartbeats 6400000 in
set_option maxRecDepth 100000 in
theorem aru (u:Nat) (o:u<18446744073709551616) (w:World) (O:Lib.TabIs Tryz.prog w "internal/strconv.uint64pow10" .u64 Lib.pow10Tab):
 Calls Tryz.prog 239 #[.int .u64 u,.int .i64 10] w λe w'=>e=.returned (.string ⟨(Lib.decDigits u).toArray⟩)/\∃ k os,w'=grow (w.drewN k) os:=by
 have ae:∀ args w,(callFunc 249 args).run Tryz.prog w=.ok (.enter 249 args) w:=abf Tryz.func249 (by kernel_rfl) (by kernel_rfl)
 have af:∀ args w,(callFunc 250 args).run Tryz.prog w=.ok (.enter 250 args) w:=abf Tryz.func250 (by kernel_rfl) (by kernel_rfl)
 have ag:∀ args w,(callFunc 251 args).run Tryz.prog w=.ok (.enter 251 args) w:=abf Tryz.func251 (by kernel_rfl) (by kernel_rfl)
 by_cases hi:u<100
 ·go_enter Tryz.func239,Tryz.ntmps239;go_wp2_with (go_at_fn 249;refine (Tryz.internal_strconv_small u hi _).mono ?_;rintro e w' ⟨rfl,rfl⟩);go_ret;exact ⟨rfl,0,#[],by simp [World.drewN_zero]⟩
 ·have Z:1<=u:=by omega
  have ab:Lib.nDigits u<=20:=by have:=Lib.numDigits_eq u Z o;split at this<;>omega
  have ah:Lib.nDigits u<=23:=by omega
  have M:Tryz.prog.arrayLen 285=24:=by simp [Program.arrayLen,Tryz.underlying285]
  have ad:∀ W,(Instr.sliceAt 285 (.pointer (some ⟨w.heap.size,0,none⟩)) none (some (.int .i64 (Lib.nDigits u:Int))) none).run Tryz.prog W=.ok (.slice (some ⟨w.heap.size,0,none⟩) (Lib.nDigits u) 24) W:=λW=>by rw [run_sliceAt_array_h W 285 ⟨w.heap.size,0,none⟩ (by simp [Program.arrayLen,Program.elem,Tryz.underlying285]) .i64 (Lib.nDigits u:Int) (by omega) (by rw [M];omega)];go_simp
  have I:Holds (λ(b:UInt8)=>Value.int .u8 (b.toNat:Int)) (w.alloc (.cells Lib.zeros24 285)) w.heap.size 0 (Array.replicate (Lib.nDigits u) 0):=at4 w 285 _ (by omega);have H:=Tryz.internal_strconv_formatBase10 w.heap.size 0 24 u (Array.replicate (Lib.nDigits u) 0) (w.alloc (.cells Lib.zeros24 285)) I (by rw [Array.size_replicate];exact Lib.lt_pow_nDigits u) o (by rw [Array.size_replicate];omega);rw [Array.size_replicate] at H;have aa:=Lib.hid I;clear I M;go_enter Tryz.func239,Tryz.ntmps239;go_wp2_with (first
   | (go_at_fn 250;refine (Tryz.internal_strconv_numDigits u Z o _ (Lib.tabIs_alloc O _)).mono ?_;rintro e w' ⟨rfl,rfl⟩))
  go_at_fn 251;refine H.mono ?_;rintro e w' ⟨rfl,k,v',J,rfl,hF⟩;have ai:(convert 263 9 (.slice (some ⟨w.heap.size,0,none⟩) (Lib.nDigits u) 24)).run Tryz.prog ((putRow (λ(b:UInt8)=>Value.int .u8 (b.toNat:Int)) (w.alloc (.cells Lib.zeros24 285)) w.heap.size 0 J).drewN k)=.ok (.string ⟨(Lib.decDigits u).toArray⟩) ((putRow (λ(b:UInt8)=>Value.int .u8 (b.toNat:Int)) (w.alloc (.cells Lib.zeros24 285)) w.heap.size 0 J).drewN k):=by
   have h:=run_convert_bytes_back (P:=Tryz.prog) ((putRow (λ(b:UInt8)=>Value.int .u8 (b.toNat:Int)) (w.alloc (.cells Lib.zeros24 285)) w.heap.size 0 J).drewN k) 263 9 5 ⟨w.heap.size,0,none⟩ 24 (Lib.decDigits u) Tryz.underlying263 Tryz.underlying5 Tryz.underlying9 (λj hj=>by rw [Lib.row_is_numeral hF j hj,Lib.add_plain,World.cell?_drewN];exact cell?_putRow (λ(b:UInt8)=>Value.int .u8 (b.toNat:Int)) _ w.heap.size 0 _ J aa.out (by rw [hF.size,Array.size_replicate]) j (by rw [hF.size];rw [Lib.decDigits_length] at hj;exact hj))
   rw [Lib.decDigits_length] at h;exact h
  go_wp2;go_ret;obtain ⟨os,eo⟩:=fin0 w (.cells Lib.zeros24 285) J k;exact ⟨rfl,k,os,eo⟩
def aw1 (h:Nat) (u base:Int):Option Bt:=bif decide (0<=u)&&decide (u<=18446744073709551615)&&decide (base=10) then some (decB u.toNat) else none
def a9v (h:Nat):CallE:={ f:=239,A:=⟨2,[],[.int .u64,.int .i64]⟩,R:=⟨1,[],[.str]⟩,F:=λx=>aw1 h x.1 x.2,dflt:=[] }
theorem a7g (o:Nat):(a9v o).Ok Tryz.prog:=by intro x y h;obtain ⟨n,base⟩:=x;have h:aw1 o n base=some y:=h;unfold aw1 at h;obtain ⟨J,rfl⟩:=aa3 h;simp only [Aj,A5] at J;obtain ⟨⟨O,I⟩,rfl⟩:=J;obtain ⟨u,rfl⟩:∃ u:Nat,n=(u:Int):=⟨n.toNat,(Int.toNat_of_nonneg O).symm⟩;refine afy (abf Tryz.func239 (by kernel_rfl) (by kernel_rfl)) (λD ow μ w M H=>?_);obtain ⟨v,b,rfl,I,Z⟩:=a9o H;cases I;cases Z;refine (aru u (by omega) w (ba5 H.tabs)).mono ?_;rintro e w' ⟨rfl,k,os,rfl⟩;refine ⟨_,rfl,λaa ab st'=>?_,aok w k os⟩;rw [Ai,<-apm (by omega)];exact .str
end Go.Ab
namespace Go.Ab
open Go Go.Proofs Go.Shelf Go.RowKit Go.Lib
def aa2 (c:UInt8):Bt->List Bt
 | []=>[[]]
 | b::r=>bif b==c then []::aa2 c r else match aa2 c r with | x::q=>(b::x)::q | []=>[[b]]
theorem ahq (c:UInt8):∀ s,aa2 c s≠[]:=by
 intro s;cases s with
 | nil=>simp [aa2]
 | cons b r=>
  simp only [aa2];cases (b==c)
  ·simp only [Ah];split<;>simp
  ·simp
theorem a0e (s:Bt) (c:UInt8):indexByte s c=-1\/∃ n:Nat,indexByte s c=n:=by
 have:=indexByte_ge s c;rcases Int.lt_or_le (indexByte s c) 0 with h | h
 ·exact Or.inl (by omega)
 ·exact Or.inr ⟨(indexByte s c).toNat,by omega⟩
theorem au5 (c b:UInt8) (h:(b==c)=false):∀ (k:Nat) (r:Bt),splitK [c] 0 k (b::r)=match splitK [c] 0 k r with | x::q=>(b::x)::q | []=>[[b]]:=by
 intro k r;have hb:b≠c:=by intro e;rw [e] at h;simp at h
 cases k with
 | zero=>rfl
 | succ k=>
  have H:index (b::r) [c]=if indexByte r c==-1 then -1 else indexByte r c+1:=by rw [index_one];simp only [indexByte,h,A6,A8]
  have I:index r [c]=indexByte r c:=index_one r c;unfold splitK;rw [H,I];rcases a0e r c with o | ⟨n,o⟩
  ·simp [o]
  ·have J:((n:Int)==-1)=false:=by rw [Bl];omega
   have M:((n:Int)+1==-1)=false:=by rw [Bl];omega
   simp only [o,J,M,A6,A8];have O:((n:Int)+1).toNat=n+1:=by omega
   have Z:((n:Int)).toNat=n:=by omega
   rw [O,Z];simp [Nat.add_right_comm]
theorem a2e (c:UInt8):∀ (s:Bt) (k:Nat),s.count c<=k->splitK [c] 0 k s=aa2 c s:=by
 intro s;induction s with
 | nil=>
  intro k _;cases k with
  | zero=>rfl
  | succ k=>simp [splitK,aa2,index_one,indexByte]
 | cons b r I=>
  intro k H;cases h:(b==c) with
  | false=>
   have o:b≠c:=by intro e;rw [e] at h;simp at h
   rw [au5 c b h,I k (by rw [List.count_cons_of_ne (by simpa using o)] at H;exact H)];rw [aa2,h];first | done | rfl
  | true=>
   have o:b=c:=by simpa using h
   subst o;rw [List.count_cons_self] at H;cases k with
   | zero=>omega
   | succ k=>
    unfold splitK;have J:index (b::r) [b]=0:=by rw [index_one];simp [indexByte]
    rw [J];have M:((0:Int)==-1)=false:=by decide
    simp only [M,A6,A8];simp only [aa2,h,Af];simp;exact I k (by omega)
theorem ayp (s:Bt) (c:UInt8):(splitB ⟨#[c]⟩ 0 (countB ⟨s.toArray⟩ ⟨#[c]⟩) ⟨s.toArray⟩).map (·.data.toList)=aa2 c s:=by rw [splitB_data];show splitK [c] 0 _ s=_;refine a2e c s _ ?_;show _<=Lib.count s [c];rw [Lib.count_one];exact Nat.le_refl _
set_option maxHeartbeats 1000000 in
theorem a2f (s:ByteArray) (c:UInt8) (w:World) (hs:s.size<4294967281):
 Calls Tryz.prog 210 #[.string s,.string ⟨#[c]⟩] w λe w'=>e=.returned (.slice (some ⟨w.heap.size,0,none⟩) (Lib.countB s ⟨#[c]⟩+1) (Lib.countB s ⟨#[c]⟩+1))/\
  w'=w.alloc (.cells ((Lib.splitB ⟨#[c]⟩ 0 (Lib.countB s ⟨#[c]⟩) s).map Value.string).toArray 9):=by
 have I:1<=(⟨#[c]⟩:ByteArray).size:=Nat.le_refl 1
 have Z:=Lib.countB_le ⟨#[c]⟩ I s.size s (Nat.le_refl _)
 have h:=Lib.splitB_all ⟨#[c]⟩ I 0 _ s rfl
 have H:=Any.strings_genSplit_core (P:=Tryz.prog) Tryz.lays221 (by kernel_rfl) s ⟨#[c]⟩ 0 (-1) (Lib.countB s ⟨#[c]⟩+1) w hs I (Nat.zero_le _)
  (λx cs _=>(Any.strings_Index_one Tryz.lays143 x c _).mono λe w' ⟨J,o⟩=>⟨by rw [J];exact congrArg (λi:Int=>Ending.returned (Value.int .i64 i)) (index_one x.data.toList c).symm,o⟩)
  ((
   Any.strings_Count_one Tryz.lays138 s c w).mono λe w' ⟨J,o⟩=>⟨by
   rw [J]
   show _=Ending.returned (Value.int .i64 ((Lib.count s.data.toList [c]:Nat):Int))
   rw [Lib.count_one]
   rfl,o⟩) (by decide) (by decide) (by rw [if_pos (by decide)];omega)
 rw [Nat.add_sub_cancel,h] at H
 have O:Lib.cellsOf (Lib.splitB ⟨#[c]⟩ 0 (Lib.countB s ⟨#[c]⟩) s) (Lib.countB s ⟨#[c]⟩+1)=((Lib.splitB ⟨#[c]⟩ 0 (Lib.countB s ⟨#[c]⟩) s).map Value.string).toArray:=by rw [<-h];exact Lib.cellsOf_full _
 rw [O] at H
 have M:∀ args w,(callFunc 226 args).run Tryz.prog w=.ok (.enter 226 args) w:=abf Tryz.func226 (by kernel_rfl) (by kernel_rfl)
 go_enter Tryz.func210,Tryz.ntmps210
 go_wp2_with (go_at_fn 226;refine H.mono ?_;rintro e w' ⟨rfl,o⟩;rw [o])
 go_ret
 exact ⟨rfl,rfl⟩
theorem at1 {P:Program}{f:FuncId}{args:List SV}{E:TypeId}{xs:List PV} (he:alq P f)
 (h:∀ (D:Dom) (ow:Own) (μ:Nat->Nat) (w:World) (H:Array Value),Pre P D ow μ [] w args H->∃ (cs:List Value) (cap:Nat),xs.length<=cap/\cs.length=xs.length*P.cellsOf E/\(∀ (D':Dom) (w':World) (i:Nat) (x:PV),xs[i]?=some x->Rep P D' w' E x ((cs.drop (i*P.cellsOf E)).take (P.cellsOf E)))/\
  Calls P f H w λe w'=>e=.returned (.slice (some ⟨w.heap.size,0,none⟩) xs.length cap)/\w'=w.alloc (.cells cs.toArray E)):Meets P f args [] [.slice E xs] []:=by
 refine ⟨he,λD ow μ w H I=>?_⟩
 obtain ⟨cs,cap,Z,h2,h3,h4⟩:=h D ow μ w H I
 refine h4.mono ?_
 rintro e w' ⟨rfl,rfl⟩
 have J:Keeps D w (w.alloc (.cells cs.toArray E)):=Keeps.of_heap λb o d=>aa6 w _ b (I.dlt b o d)
 refine ⟨_,λb o=>D b o\/(b=w.heap.size/\o<cs.length),rfl,λ_ _ d=>Or.inl d,λb o d=>d.imp id λd=>Or.inl (by omega),⟨λ_=>none,μ,⟨λk b h=>(by simp at h),λb k h=>(by cases h),λb o d=>?_,λb k x h=>(by cases h)⟩,.slice (.mk Z h2 (λi x hx=>h3 _ _ i x hx) (λj u O=>?_)),λb k h=>(by cases h),λk b h=>(by simp at h),λk E g xs ys h=>(by simp at h)⟩,rfl,rfl,rfl,by simp,λb M _=>aa6 w _ b M,J⟩
 ·rcases d with d | ⟨rfl,_⟩
  ·have:=I.dlt b o d;simp;omega
  ·simp
 ·have aa:=(Bg.1 O).1;refine ⟨Or.inr ⟨rfl,by omega⟩,?_⟩;rw [Nat.zero_add,World.cell?_alloc_new];simpa using O
def aoh (o:Nat) (s h:Bt):Option (List PV):=
 match h with
 | [c]=>bif Nat.blt s.length 4294967281 then some ((aa2 c s).map PV.str) else none
 | _=>none
def ay5 (h:Nat):CallE:={ f:=210,A:=⟨2,[],[.str,.str]⟩,R:=⟨1,[],[.slice 9]⟩,F:=λx=>aoh h x.1 x.2,dflt:=[] }
theorem a3b (o:Nat):(ay5 o).Ok Tryz.prog:=by
 intro x y h;obtain ⟨s,M⟩:=x;have h:aoh o s M=some y:=h;unfold aoh at h;obtain ⟨c,rfl⟩:∃ c,M=[c]:=by
  match M,h with
  | [c],_=>exact ⟨c,rfl⟩
 obtain ⟨Z,rfl⟩:=aa3 h;have Z:s.length<4294967281:=Au Z;have O:Tryz.prog.cellsOf 9=1:=by kernel_rfl
 refine at1 (E:=9) (xs:=(aa2 c s).map PV.str) (abf Tryz.func210 (by kernel_rfl) (by kernel_rfl)) (λD ow μ w ab aa=>?_);obtain ⟨v,u,rfl,a1,a2⟩:=a9o aa;cases a1;cases a2;have I:=ayp s c;have H:=Lib.splitB_all ⟨#[c]⟩ (Nat.le_refl 1) 0 _ ⟨s.toArray⟩ rfl;have J:(aa2 c s).length=Lib.countB ⟨s.toArray⟩ ⟨#[c]⟩+1:=by rw [<-I,List.length_map];exact H
 refine ⟨(Lib.splitB ⟨#[c]⟩ 0 (Lib.countB ⟨s.toArray⟩ ⟨#[c]⟩) ⟨s.toArray⟩).map Value.string,Lib.countB ⟨s.toArray⟩ ⟨#[c]⟩+1,by rw [List.length_map,J];exact Nat.le_refl _,by rw [List.length_map,List.length_map,H,J,O,Nat.mul_one],λD' w' i x hx=>?_,?_⟩
 ·rw [<-I] at hx;simp only [Bj,Option.map_eq_some_iff] at hx;obtain ⟨p,⟨q,hq,rfl⟩,rfl⟩:=hx;have hi:=(Bg.1 hq).1;rw [O,Nat.mul_one];have:((List.map Value.string (splitB ⟨#[c]⟩ 0 (countB ⟨s.toArray⟩ ⟨#[c]⟩) ⟨s.toArray⟩)).drop i).take 1=[.string ⟨q.data.toList.toArray⟩]:=by
   rw [List.drop_eq_getElem_cons (by simpa using hi)];have h2:=(Bg.1 hq).2;simp [h2]
  rw [this];exact .str Tryz.underlying9
 ·have:=a2f ⟨s.toArray⟩ c w (by simpa [ByteArray.size] using Z);refine this.mono ?_;rintro e w' ⟨rfl,rfl⟩;exact ⟨by rw [List.length_map,J],rfl⟩
end Go.Ab
